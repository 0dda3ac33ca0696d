/- QuotTells, part 2 of 7 of its proof (no condition); names with a low line are shortened throughout. -/
import Derived.Test.YtjbjkmccfocikaaGreatDoorZQuotTells0
import Derived.Laws.BitsAllLaws
set_option linter.unusedVariables false
set_option linter.unusedSimpArgs false
set_option maxRecDepth 100000
set_option maxHeartbeats 8000000
namespace Go.Proofs
section
namespace YtjbjkmccfocikaaGreatDoor.B
open Go.RowKit YtjbjkmccfocikaaGreatDoorW.PrintWords YtjbjkmccfocikaaGreatDoorW.PrintLast YtjbjkmccfocikaaGreatDoorW.PrintMore
attribute [local go_sem] Zch Zci Zc9 Zda Zb1 Zb2 Zcp Zcq
mutual
def Zw.l0:Nat->List Int->List Int->List Int->Int->Option (List Int)
 | 0,_,_,_,_=>none
 | k+1,x0,x1,x5,x6=>if x6 < (x0.length:Int) then (Zw.j1 k x0 x1 x5 x6 true) else (Zw.j1 k x0 x1 x5 x6 (decide (x6 < (x1.length:Int))))
def Zw.j1:Nat->List Int->List Int->List Int->Int->Bool->Option (List Int)
 | 0,_,_,_,_,_=>none
 | k+1,x0,x1,x5,x6,x17=>if x17=true then (if x6 < (x0.length:Int) then (if 0<=x6 then (if x6 < (x1.length:Int) then (if x5.length < 17592186044416 then (Zw.l0 k x0 x1 (x5 ++ [wrap64 ((wrap64 (rd x0 x6))+(rd x1 x6))]) (wrap64 (x6+1))) else (none)) else (if x5.length < 17592186044416 then (Zw.l0 k x0 x1 (x5 ++ [wrap64 (rd x0 x6)]) (wrap64 (x6+1))) else (none))) else (none)) else (if x6 < (x1.length:Int) then (if 0<=x6 then (if x5.length < 17592186044416 then (Zw.l0 k x0 x1 (x5 ++ [wrap64 (rd x1 x6)]) (wrap64 (x6+1))) else (none)) else (none)) else (if x5.length < 17592186044416 then (Zw.l0 k x0 x1 (x5 ++ [0]) (wrap64 (x6+1))) else (none)))) else ((Zab.f k x5).bind fun qo=>(some qo))
end
def Zw.f (k:Nat) (l0:List Int) (l1:List Int):Option (List Int):=Zw.l0 k l0 l1 ([]:List Int) 0
theorem Zw.calls (k:Nat) (A0:Option Addr) (c0:Nat) (l0:List Int) (A1:Option Addr) (c1:Nat) (l1:List Int) (r:List Int) (w:World) (hr0:Kd.C (Kd.int .i64) w A0 l0.length l0) (hc0:l0.length<=c0) (hr1:Kd.C (Kd.int .i64) w A1 l1.length l1) (hc1:l1.length<=c1) (h:Zw.f k l0 l1=some r) :
  Calls Tryz.prog 85 #[.slice A0 l0.length c0,.slice A1 l1.length c1] w fun e w' => ∃ v0_:Value,e=.returned (v0_)/\Kd.R (Kd.int .i64) 3 w' w.heap.size (fun _=>True) v0_ r/\Below w.heap.size w w':=by
 have HR0:=am hr0
 have HC0:=am hc0
 clear hr0 hc0
 have HR1:=am hr1
 have HC1:=am hc1
 clear hr1 hc1
 have HB:=am (Below.refl w.heap.size w)
 have H:(Zw.l0 k l0 l1 ([]:List Int) 0)=some r:=h
 clear h
 have H':=am H
 clear H
 go_enter Tryz.func85,Tryz.ntmps85
 go_wp2
 go_loopg [5,6] k (fun kq v5 v6 w' => ∃ (x5_1:List Int) (x6_1:Int),v6=.int .i64 x6_1/\Aside0 (Zw.l0 kq l0 l1 x5_1 x6_1=some r)/\Aside0 (kq<=k)/\Aside0 (Kd.R (Kd.int .i64) 3 w' w.heap.size (fun _=>True) v5 x5_1)/\Aside0 (Below w.heap.size w w'))
 case atStart=>exact ⟨(([]:List Int)),(0),pR,H',⟨Nat.le_refl _⟩,⟨pN⟩,⟨pB⟩⟩
 case round =>
  clear H'
  obtain ⟨x5_1,x6_1,rfl,HA,HK1,HO_5,HB⟩:=hrel
  cases gk with
  | zero=>exact absurd HA.out (by simp [Zw.l0])
  | succ k1 =>
   have H:=HA.out
   clear HA
   simp only [Zw.l0] at H
   have HC3:=am H
   clear H
   go_upto_region 3 with (fail)
   go_cut [17] (fun v17 wc => ∃ (kq:Nat) (x17_2:Bool),v17=.bool x17_2/\Aside0 (Zw.j1 kq l0 l1 x5_1 x6_1 x17_2=some r)/\Aside0 (kq<=k1)/\Aside0 (Kd.R (Kd.int .i64) 3 wc w.heap.size (fun _=>True) u5 x5_1)/\Aside0 (Below w.heap.size w wc))
   case first =>
    have H:=HC3.o
    clear HC3
    replace H:=dI H
    rcases H with ⟨c4b0,H⟩|⟨c4b0,H⟩
    ·(first|rw [c4b0]|(simp only [Zb9,Zdj];rw [c4b0])|skip)
     have H':=am H
     clear H
     go_wp2
     go_meet
     case rel=>exact ⟨_,(true),pR,H',pJ,⟨by refine rp ?_;exact HO_5.o⟩,⟨pB⟩⟩
    ·(first|rw [c4b0]|(simp only [Zb9,Zdj];rw [c4b0])|skip)
     have H':=am H
     clear H
     go_wp2
     go_meet
     case rel=>exact ⟨_,(decide (x6_1 < (l1.length:Int))),pR,H',pJ,⟨by refine rp ?_;exact HO_5.o⟩,⟨pB⟩⟩
   case rest =>
    clear HC3
    obtain ⟨kq,x17_2,rfl,HA,HJ2,HO_5,HB⟩:=hcut
    cases kq with
    | zero=>exact absurd HA.out (by simp [Zw.j1])
    | succ kj2 =>
     have H:=HA.out
     clear HA
     simp only [Zw.j1] at H
     replace H:=tI (t:=x17_2) H
     rcases H with ⟨rfl,H⟩|⟨rfl,H⟩
     ·replace H:=dI H
      rcases H with ⟨c6b0,H⟩|⟨c6b0,H⟩
      ·replace H:=dI H
       rcases H with ⟨c7b0,H⟩|⟨_,H⟩
       ·replace H:=dI H
        rcases H with ⟨c8b0,H⟩|⟨c8b0,H⟩
        ·by_cases c9:x5_1.length < 17592186044416
         ·rw [if_pos c9] at H
          have LMc9:=am c9
          clear c9
          obtain ⟨qz,qf⟩:∃ y_:List Int,y_=(x5_1 ++ [wrap64 ((wrap64 (rd l0 x6_1))+(rd l1 x6_1))]):=⟨_,rfl⟩
          replace H:(Zw.l0 kj2 l0 l1 qz (wrap64 (x6_1+1)))=some r:=by have hy_:=qf;exact pH
          have qu:=am qf
          clear qf
          have H':=am H
          clear H
          have qd:0<=(x6_1:Int):=of_decide_eq_true pQ
          have qe:x6_1 < (l0.length:Int):=of_decide_eq_true pQ
          obtain ⟨qy,qj,qa⟩:=Kd.Zay HR0.o x6_1 qd qe
          cases qj
          replace qa:=(HB.o.cell (World.block_lt_of_cell? w _ qa)).trans qa
          replace qd:=eq_true qd
          replace qe:=eq_true qe
          have qk:0<=(x6_1:Int):=of_decide_eq_true pQ
          have qm:x6_1 < (l1.length:Int):=of_decide_eq_true pQ
          obtain ⟨q8,q5,qb⟩:=Kd.Zay HR1.o x6_1 qk qm
          cases q5
          replace qb:=(HB.o.cell (World.block_lt_of_cell? w _ qb)).trans qb
          replace qk:=eq_true qk
          replace qm:=eq_true qm
          go_wp2_with (first|((with_reducible refine Zar (b:=.append) (xs:=#[.tmp 40,.tmp 42]) rfl ?_);(try (refine Za1 (by rfl) ?_;dsimp only));at_builtin;refine Kd.Zb3 (Kd.int .i64) (w0:=w) w.heap.size rfl (.tmp 40) (.tmp 42) 28 3 (.int .i64 0) 8 rfl Tryz.underlying28 info3 rfl (by decide) (by omega) u5 x5_1 (wrap64 ((wrap64 (rd l0 x6_1))+(rd l1 x6_1))) [.int .i64 (wrap64 ((wrap64 (rd l0 x6_1))+(rd l1 x6_1)))] (fun _=>True) (fun _=>False) rfl rfl ?aP (fun _ hk=>hk.elim) ?aF ?aO ?aB ?aS ?aL ?_;(case aP=>exact rfl);(case aB=>exact pB);(case aF=>exact (fun _ _=>trivial));(case aO=>exact (Kd.Za HO_5.o pl));(case aS=>exact (Zb pB));(case aL=>have := LMc9.o;omega);intro jb w10 ho hb hg hat;rw [<- qu.out] at ho;have qq:=am ho;replace HB:=am hb;clear HO_5 ho hb hg hat))
          go_roundg kj2
          case measure=>exact pM
          case rel=>exact ⟨(qz),(wrap64 (x6_1+1)),pR,H',pJ,⟨by refine rp ?_;exact qq.o⟩,⟨pB⟩⟩
         ·rw [if_neg c9] at H
          cases H
        ·by_cases c11:x5_1.length < 17592186044416
         ·rw [if_pos c11] at H
          have LMc11:=am c11
          clear c11
          obtain ⟨q0,qg⟩:∃ y_:List Int,y_=(x5_1 ++ [wrap64 (rd l0 x6_1)]):=⟨_,rfl⟩
          replace H:(Zw.l0 kj2 l0 l1 q0 (wrap64 (x6_1+1)))=some r:=by have hy_:=qg;exact pH
          have qv:=am qg
          clear qg
          have H':=am H
          clear H
          have qd:0<=(x6_1:Int):=of_decide_eq_true pQ
          have qe:x6_1 < (l0.length:Int):=of_decide_eq_true pQ
          obtain ⟨qy,qj,qa⟩:=Kd.Zay HR0.o x6_1 qd qe
          cases qj
          replace qa:=(HB.o.cell (World.block_lt_of_cell? w _ qa)).trans qa
          replace qd:=eq_true qd
          replace qe:=eq_true qe
          go_wp2_with (first|((with_reducible refine Zar (b:=.append) (xs:=#[.tmp 40,.tmp 42]) rfl ?_);(try (refine Za1 (by rfl) ?_;dsimp only));at_builtin;refine Kd.Zb3 (Kd.int .i64) (w0:=w) w.heap.size rfl (.tmp 40) (.tmp 42) 28 3 (.int .i64 0) 8 rfl Tryz.underlying28 info3 rfl (by decide) (by omega) u5 x5_1 (wrap64 (rd l0 x6_1)) [.int .i64 (wrap64 (rd l0 x6_1))] (fun _=>True) (fun _=>False) rfl rfl ?aP (fun _ hk=>hk.elim) ?aF ?aO ?aB ?aS ?aL ?_;(case aP=>exact rfl);(case aB=>exact pB);(case aF=>exact (fun _ _=>trivial));(case aO=>exact (Kd.Za HO_5.o pl));(case aS=>exact (Zb pB));(case aL=>have := LMc11.o;omega);intro jc w12 ho hb hg hat;rw [<- qv.out] at ho;have qr:=am ho;replace HB:=am hb;clear HO_5 ho hb hg hat))
          go_roundg kj2
          case measure=>exact pM
          case rel=>exact ⟨(q0),(wrap64 (x6_1+1)),pR,H',pJ,⟨by refine rp ?_;exact qr.o⟩,⟨pB⟩⟩
         ·rw [if_neg c11] at H
          cases H
       ·cases H
      ·replace H:=dI H
       rcases H with ⟨c13b0,H⟩|⟨c13b0,H⟩
       ·replace H:=dI H
        rcases H with ⟨c14b0,H⟩|⟨_,H⟩
        ·by_cases c15:x5_1.length < 17592186044416
         ·rw [if_pos c15] at H
          have LMc15:=am c15
          clear c15
          obtain ⟨q1,qh⟩:∃ y_:List Int,y_=(x5_1 ++ [wrap64 (rd l1 x6_1)]):=⟨_,rfl⟩
          replace H:(Zw.l0 kj2 l0 l1 q1 (wrap64 (x6_1+1)))=some r:=by have hy_:=qh;exact pH
          have qw:=am qh
          clear qh
          have H':=am H
          clear H
          have ql:0<=(x6_1:Int):=of_decide_eq_true pQ
          have qn:x6_1 < (l1.length:Int):=of_decide_eq_true pQ
          obtain ⟨q9,q6,qc⟩:=Kd.Zay HR1.o x6_1 ql qn
          cases q6
          replace qc:=(HB.o.cell (World.block_lt_of_cell? w _ qc)).trans qc
          replace ql:=eq_true ql
          replace qn:=eq_true qn
          go_wp2_with (first|((with_reducible refine Zar (b:=.append) (xs:=#[.tmp 40,.tmp 42]) rfl ?_);(try (refine Za1 (by rfl) ?_;dsimp only));at_builtin;refine Kd.Zb3 (Kd.int .i64) (w0:=w) w.heap.size rfl (.tmp 40) (.tmp 42) 28 3 (.int .i64 0) 8 rfl Tryz.underlying28 info3 rfl (by decide) (by omega) u5 x5_1 (wrap64 (rd l1 x6_1)) [.int .i64 (wrap64 (rd l1 x6_1))] (fun _=>True) (fun _=>False) rfl rfl ?aP (fun _ hk=>hk.elim) ?aF ?aO ?aB ?aS ?aL ?_;(case aP=>exact rfl);(case aB=>exact pB);(case aF=>exact (fun _ _=>trivial));(case aO=>exact (Kd.Za HO_5.o pl));(case aS=>exact (Zb pB));(case aL=>have := LMc15.o;omega);intro jd w16 ho hb hg hat;rw [<- qw.out] at ho;have qs:=am ho;replace HB:=am hb;clear HO_5 ho hb hg hat))
          go_roundg kj2
          case measure=>exact pM
          case rel=>exact ⟨(q1),(wrap64 (x6_1+1)),pR,H',pJ,⟨by refine rp ?_;exact qs.o⟩,⟨pB⟩⟩
         ·rw [if_neg c15] at H
          cases H
        ·cases H
       ·by_cases c17:x5_1.length < 17592186044416
        ·rw [if_pos c17] at H
         have LMc17:=am c17
         clear c17
         obtain ⟨q2,qi⟩:∃ y_:List Int,y_=(x5_1 ++ [0]):=⟨_,rfl⟩
         replace H:(Zw.l0 kj2 l0 l1 q2 (wrap64 (x6_1+1)))=some r:=by have hy_:=qi;exact pH
         have qx:=am qi
         clear qi
         have H':=am H
         clear H
         go_wp2_with (first|((with_reducible refine Zar (b:=.append) (xs:=#[.tmp 40,.tmp 42]) rfl ?_);(try (refine Za1 (by rfl) ?_;dsimp only));at_builtin;refine Kd.Zb3 (Kd.int .i64) (w0:=w) w.heap.size rfl (.tmp 40) (.tmp 42) 28 3 (.int .i64 0) 8 rfl Tryz.underlying28 info3 rfl (by decide) (by omega) u5 x5_1 0 [.int .i64 0] (fun _=>True) (fun _=>False) rfl rfl ?aP (fun _ hk=>hk.elim) ?aF ?aO ?aB ?aS ?aL ?_;(case aP=>exact rfl);(case aB=>exact pB);(case aF=>exact (fun _ _=>trivial));(case aO=>exact (Kd.Za HO_5.o pl));(case aS=>exact (Zb pB));(case aL=>have := LMc17.o;omega);intro je w18 ho hb hg hat;rw [<- qx.out] at ho;have qt:=am ho;replace HB:=am hb;clear HO_5 ho hb hg hat))
         go_roundg kj2
         case measure=>exact pM
         case rel=>exact ⟨(q2),(wrap64 (x6_1+1)),pR,H',pJ,⟨by refine rp ?_;exact qt.o⟩,⟨pB⟩⟩
        ·rw [if_neg c17] at H
         cases H
     ·replace H:=ob H
      obtain ⟨qo,A19,H⟩:=H
      obtain rfl:=Option.some.inj H
      obtain ⟨q3,q4,q7⟩:=Kd.Zh HO_5.o
      subst q7
      go_wp2_with (first|(refine gL (some 45) Tryz.func121 #[.slice q3 x5_1.length q4] (h:=?_);(with_reducible refine (Zab.calls kj2 _ _ x5_1 qo _ ?side1 ?side2 A19.o).mono ?_);(case side1=>exact Kd.Zi (Kd.Zc HO_5.o).2.2 pl);(case side2=>exact (Kd.Zc HO_5.o).2.1);rintro e w21 ⟨ja,rfl,ho0,hb⟩;refine ⟨_,rfl,?_⟩;have qp:=am (Kd.Zn (Kd.Zf ho0 (Kd.R_lt (Kd.Za HO_5.o pl))) (Zb pB));replace HO_5:=reR HO_5 ho0 hb;replace HB:=bS hb))
      go_ret
      exact ⟨_,pE,by refine rp ?_;exact Kd.Zo qp.o (fun _ hk=>trivial),pB⟩
def Zal.l0:Nat->List Int->List Int->Int->Option (Int)
 | 0,_,_,_=>none
 | k+1,x0,x1,x5=>if x5 >= 0 then (if 0<=x5 then (if x5 < (x0.length:Int) then (if x5 < (x1.length:Int) then (if (rd x0 x5) < (rd x1 x5) then (some (-1)) else (if (rd x0 x5) > (rd x1 x5) then (some 1) else (Zal.l0 k x0 x1 (wrap64 (x5 - 1))))) else (none)) else (none)) else (none)) else (some 0)
def Zal.f (k:Nat) (l0:List Int) (l1:List Int):Option (Int):=if (l0.length:Int) < (l1.length:Int) then (some (-1)) else (if (l0.length:Int) > (l1.length:Int) then (some 1) else (Zal.l0 k l0 l1 (wrap64 ((l0.length:Int) - 1))))
theorem Zal.calls (k:Nat) (A0:Option Addr) (c0:Nat) (l0:List Int) (A1:Option Addr) (c1:Nat) (l1:List Int) (r:Int) (w:World) (hr0:Kd.C (Kd.int .i64) w A0 l0.length l0) (hc0:l0.length<=c0) (hr1:Kd.C (Kd.int .i64) w A1 l1.length l1) (hc1:l1.length<=c1) (h:Zal.f k l0 l1=some r) :
  Calls Tryz.prog 94 #[.slice A0 l0.length c0,.slice A1 l1.length c1] w fun e w'=>e=.returned (.int .i64 r)/\Drawn0 w w':=by
 have HR0:=am hr0
 have HC0:=am hc0
 clear hr0 hc0
 have HR1:=am hr1
 have HC1:=am hc1
 clear hr1 hc1
 have H:(if (l0.length:Int) < (l1.length:Int) then (some (-1)) else (if (l0.length:Int) > (l1.length:Int) then (some 1) else (Zal.l0 k l0 l1 (wrap64 ((l0.length:Int) - 1)))))=some r:=h
 clear h
 by_cases c3:(l0.length:Int) < (l1.length:Int)
 ·rw [if_pos c3] at H
  have c3b0:decide ((l0.length:Int) < (l1.length:Int))=true:=decide_eq_true c3
  have c3b1:decide (l0.length < l1.length)=true:=decide_eq_true (Int.ofNat_lt.mp c3)
  clear c3
  obtain rfl:=Option.some.inj H
  go_enter Tryz.func94,Tryz.ntmps94
  go_wp2
  repeat (go_quiet (fail);try go_wp2)
  go_ret
  exact ⟨pR,pD⟩
 ·rw [if_neg c3] at H
  have c3b0:decide ((l0.length:Int) < (l1.length:Int))=false:=decide_eq_false c3
  have c3b1:decide (l0.length < l1.length)=false:=decide_eq_false (fun h=>c3 (Int.ofNat_lt.mpr h))
  clear c3
  by_cases c4:(l0.length:Int) > (l1.length:Int)
  ·rw [if_pos c4] at H
   have c4b0:decide ((l1.length:Int) < (l0.length:Int))=true:=decide_eq_true c4
   have c4b1:decide (l1.length < l0.length)=true:=decide_eq_true (Int.ofNat_lt.mp c4)
   clear c4
   obtain rfl:=Option.some.inj H
   go_enter Tryz.func94,Tryz.ntmps94
   go_wp2
   repeat (go_quiet (fail);try go_wp2)
   go_ret
   exact ⟨pR,pD⟩
  ·rw [if_neg c4] at H
   have c4b0:decide ((l1.length:Int) < (l0.length:Int))=false:=decide_eq_false c4
   have c4b1:decide (l1.length < l0.length)=false:=decide_eq_false (fun h=>c4 (Int.ofNat_lt.mpr h))
   clear c4
   have H':=am H
   clear H
   go_enter Tryz.func94,Tryz.ntmps94
   go_wp2
   repeat (go_quiet (fail);try go_wp2)
   go_loopg [5] k (fun kq v5 w' => ∃ (x5_1:Int),v5=.int .i64 x5_1/\Aside0 (Zal.l0 kq l0 l1 x5_1=some r)/\Aside0 (kq<=k)/\Drawn0 w w')
   case atStart=>exact ⟨(wrap64 ((l0.length:Int) - 1)),pR,H',⟨Nat.le_refl _⟩,pD⟩
   case round =>
    clear H'
    obtain ⟨x5_1,rfl,HA,HK1,⟨m1,rfl⟩⟩:=hrel
    cases gk with
    | zero=>exact absurd HA.out (by simp [Zal.l0])
    | succ k1 =>
     have H:=HA.out
     clear HA
     simp only [Zal.l0] at H
     replace H:=hI H
     rcases H with ⟨c5b0,H⟩|⟨c5b0,H⟩
     ·replace H:=dI H
      rcases H with ⟨c6b0,H⟩|⟨_,H⟩
      ·replace H:=dI H
       rcases H with ⟨c7b0,H⟩|⟨_,H⟩
       ·replace H:=dI H
        rcases H with ⟨c8b0,H⟩|⟨_,H⟩
        ·replace H:=dI H
         rcases H with ⟨c9b0,H⟩|⟨c9b0,H⟩
         ·obtain rfl:=Option.some.inj H
          have qa:0<=(x5_1:Int):=of_decide_eq_true pQ
          have qc:x5_1 < (l0.length:Int):=of_decide_eq_true pQ
          obtain ⟨qi,qo,qk⟩:=Kd.Zay HR0.o x5_1 qa qc
          cases qo
          replace qa:=eq_true qa
          replace qc:=eq_true qc
          have qb:0<=(x5_1:Int):=of_decide_eq_true pQ
          have qd:x5_1 < (l1.length:Int):=of_decide_eq_true pQ
          obtain ⟨qj,qp,ql⟩:=Kd.Zay HR1.o x5_1 qb qd
          cases qp
          replace qb:=eq_true qb
          replace qd:=eq_true qd
          go_wp2
          repeat (go_quiet (fail);try go_wp2)
          go_ret
          exact ⟨pR,pD⟩
         ·replace H:=gI H
          rcases H with ⟨c10b0,H⟩|⟨c10b0,H⟩
          ·obtain rfl:=Option.some.inj H
           have qa:0<=(x5_1:Int):=of_decide_eq_true pQ
           have qc:x5_1 < (l0.length:Int):=of_decide_eq_true pQ
           obtain ⟨qi,qo,qk⟩:=Kd.Zay HR0.o x5_1 qa qc
           cases qo
           replace qa:=eq_true qa
           replace qc:=eq_true qc
           have qb:0<=(x5_1:Int):=of_decide_eq_true pQ
           have qd:x5_1 < (l1.length:Int):=of_decide_eq_true pQ
           obtain ⟨qj,qp,ql⟩:=Kd.Zay HR1.o x5_1 qb qd
           cases qp
           replace qb:=eq_true qb
           replace qd:=eq_true qd
           have qe:0<=(x5_1:Int):=of_decide_eq_true pQ
           have qg:x5_1 < (l0.length:Int):=of_decide_eq_true pQ
           obtain ⟨qm,qs,qq⟩:=Kd.Zay HR0.o x5_1 qe qg
           obtain rfl:qi=qm:=(by injection qs)
           replace qe:=eq_true qe
           replace qg:=eq_true qg
           have qf:0<=(x5_1:Int):=of_decide_eq_true pQ
           have qh:x5_1 < (l1.length:Int):=of_decide_eq_true pQ
           obtain ⟨qn,qt,qr⟩:=Kd.Zay HR1.o x5_1 qf qh
           obtain rfl:qj=qn:=(by injection qt)
           replace qf:=eq_true qf
           replace qh:=eq_true qh
           go_wp2
           repeat (go_quiet (fail);try go_wp2)
           go_ret
           exact ⟨pR,pD⟩
          ·have H':=am H
           clear H
           have qa:0<=(x5_1:Int):=of_decide_eq_true pQ
           have qc:x5_1 < (l0.length:Int):=of_decide_eq_true pQ
           obtain ⟨qi,qo,qk⟩:=Kd.Zay HR0.o x5_1 qa qc
           cases qo
           replace qa:=eq_true qa
           replace qc:=eq_true qc
           have qb:0<=(x5_1:Int):=of_decide_eq_true pQ
           have qd:x5_1 < (l1.length:Int):=of_decide_eq_true pQ
           obtain ⟨qj,qp,ql⟩:=Kd.Zay HR1.o x5_1 qb qd
           cases qp
           replace qb:=eq_true qb
           replace qd:=eq_true qd
           have qe:0<=(x5_1:Int):=of_decide_eq_true pQ
           have qg:x5_1 < (l0.length:Int):=of_decide_eq_true pQ
           obtain ⟨qm,qs,qq⟩:=Kd.Zay HR0.o x5_1 qe qg
           obtain rfl:qi=qm:=(by injection qs)
           replace qe:=eq_true qe
           replace qg:=eq_true qg
           have qf:0<=(x5_1:Int):=of_decide_eq_true pQ
           have qh:x5_1 < (l1.length:Int):=of_decide_eq_true pQ
           obtain ⟨qn,qt,qr⟩:=Kd.Zay HR1.o x5_1 qf qh
           obtain rfl:qj=qn:=(by injection qt)
           replace qf:=eq_true qf
           replace qh:=eq_true qh
           go_wp2
           repeat (go_quiet (fail);try go_wp2)
           go_roundg k1
           case measure=>exact pM
           case rel=>exact ⟨(wrap64 (x5_1 - 1)),pR,H',pJ,pD⟩
        ·cases H
       ·cases H
      ·cases H
     ·obtain rfl:=Option.some.inj H
      go_wp2
      repeat (go_quiet (fail);try go_wp2)
      go_ret
      exact ⟨pR,pD⟩
def Zah.l0:Nat->List Int->List Int->List Int->Int->Int->Option (List Int)
 | 0,_,_,_,_,_=>none
 | k+1,x0,x1,x5,x6,x7=>if x7 < (x0.length:Int) then (if 0<=x7 then (if x7 < (x1.length:Int) then (if (wrap64 ((wrap64 ((rd x0 x7) - x6)) - (rd x1 x7))) < 0 then (if x5.length < 17592186044416 then (Zah.l0 k x0 x1 (x5 ++ [wrap64 ((wrap64 ((wrap64 ((rd x0 x7) - x6)) - (rd x1 x7)))+10)]) 1 (wrap64 (x7+1))) else (none)) else (if x5.length < 17592186044416 then (Zah.l0 k x0 x1 (x5 ++ [wrap64 ((wrap64 ((rd x0 x7) - x6)) - (rd x1 x7))]) 0 (wrap64 (x7+1))) else (none))) else (if (wrap64 ((rd x0 x7) - x6)) < 0 then (if x5.length < 17592186044416 then (Zah.l0 k x0 x1 (x5 ++ [wrap64 ((wrap64 ((rd x0 x7) - x6))+10)]) 1 (wrap64 (x7+1))) else (none)) else (if x5.length < 17592186044416 then (Zah.l0 k x0 x1 (x5 ++ [wrap64 ((rd x0 x7) - x6)]) 0 (wrap64 (x7+1))) else (none)))) else (none)) else ((Zl.f k x5).bind fun qp=>(some qp))
def Zah.f (k:Nat) (l0:List Int) (l1:List Int):Option (List Int):=Zah.l0 k l0 l1 ([]:List Int) 0 0
theorem Zah.calls (k:Nat) (A0:Option Addr) (c0:Nat) (l0:List Int) (A1:Option Addr) (c1:Nat) (l1:List Int) (r:List Int) (w:World) (hr0:Kd.C (Kd.int .i64) w A0 l0.length l0) (hc0:l0.length<=c0) (hr1:Kd.C (Kd.int .i64) w A1 l1.length l1) (hc1:l1.length<=c1) (h:Zah.f k l0 l1=some r) :
  Calls Tryz.prog 134 #[.slice A0 l0.length c0,.slice A1 l1.length c1] w fun e w' => ∃ v0_:Value,e=.returned (v0_)/\Kd.R (Kd.int .i64) 3 w' w.heap.size (fun _=>True) v0_ r/\Below w.heap.size w w':=by
 have HR0:=am hr0
 have HC0:=am hc0
 clear hr0 hc0
 have HR1:=am hr1
 have HC1:=am hc1
 clear hr1 hc1
 have HB:=am (Below.refl w.heap.size w)
 have H:(Zah.l0 k l0 l1 ([]:List Int) 0 0)=some r:=h
 clear h
 have H':=am H
 clear H
 go_enter Tryz.func134,Tryz.ntmps134
 go_wp2
 go_loopg [5,6,7] k (fun kq v5 v6 v7 w' => ∃ (x5_1:List Int) (x6_1:Int) (x7_1:Int),v6=.int .i64 x6_1/\v7=.int .i64 x7_1/\Aside0 (Zah.l0 kq l0 l1 x5_1 x6_1 x7_1=some r)/\Aside0 (kq<=k)/\Aside0 (Kd.R (Kd.int .i64) 3 w' w.heap.size (fun _=>True) v5 x5_1)/\Aside0 (Below w.heap.size w w'))
 case atStart=>exact ⟨(([]:List Int)),(0),(0),pR,pR,H',⟨Nat.le_refl _⟩,⟨pN⟩,⟨pB⟩⟩
 case round =>
  clear H'
  obtain ⟨x5_1,x6_1,x7_1,rfl,rfl,HA,HK1,HO_5,HB⟩:=hrel
  cases gk with
  | zero=>exact absurd HA.out (by simp [Zah.l0])
  | succ k1 =>
   have H:=HA.out
   clear HA
   simp only [Zah.l0] at H
   replace H:=dI H
   rcases H with ⟨c3b0,H⟩|⟨c3b0,H⟩
   ·replace H:=dI H
    rcases H with ⟨c4b0,H⟩|⟨_,H⟩
    ·replace H:=dI H
     rcases H with ⟨c5b0,H⟩|⟨c5b0,H⟩
     ·replace H:=dI H
      rcases H with ⟨c6b0,H⟩|⟨c6b0,H⟩
      ·by_cases c7:x5_1.length < 17592186044416
       ·rw [if_pos c7] at H
        have LMc7:=am c7
        clear c7
        obtain ⟨q0,qi⟩:∃ y_:List Int,y_=(x5_1 ++ [wrap64 ((wrap64 ((wrap64 ((rd l0 x7_1) - x6_1)) - (rd l1 x7_1)))+10)]):=⟨_,rfl⟩
        replace H:(Zah.l0 k1 l0 l1 q0 1 (wrap64 (x7_1+1)))=some r:=by have hy_:=qi;exact pH
        have qv:=am qi
        clear qi
        have H':=am H
        clear H
        have qc:0<=(x7_1:Int):=of_decide_eq_true pQ
        have qd:x7_1 < (l0.length:Int):=of_decide_eq_true pQ
        obtain ⟨qh,qe,qa⟩:=Kd.Zay HR0.o x7_1 qc qd
        cases qe
        replace qa:=(HB.o.cell (World.block_lt_of_cell? w _ qa)).trans qa
        replace qc:=eq_true qc
        replace qd:=eq_true qd
        have qf:0<=(x7_1:Int):=of_decide_eq_true pQ
        have qg:x7_1 < (l1.length:Int):=of_decide_eq_true pQ
        obtain ⟨qz,qo,qb⟩:=Kd.Zay HR1.o x7_1 qf qg
        cases qo
        replace qb:=(HB.o.cell (World.block_lt_of_cell? w _ qb)).trans qb
        replace qf:=eq_true qf
        replace qg:=eq_true qg
        go_wp2_with (first|((with_reducible refine Zar (b:=.append) (xs:=#[.tmp 35,.tmp 37]) rfl ?_);at_builtin;refine Kd.Zb3 (Kd.int .i64) (w0:=w) w.heap.size rfl (.tmp 35) (.tmp 37) 28 3 (.int .i64 0) 8 rfl Tryz.underlying28 info3 rfl (by decide) (by omega) u5 x5_1 (wrap64 ((wrap64 ((wrap64 ((rd l0 x7_1) - x6_1)) - (rd l1 x7_1)))+10)) [.int .i64 (wrap64 ((wrap64 ((wrap64 ((rd l0 x7_1) - x6_1)) - (rd l1 x7_1)))+10))] (fun _=>True) (fun _=>False) rfl rfl ?aP (fun _ hk=>hk.elim) ?aF ?aO ?aB ?aS ?aL ?_;(case aP=>exact rfl);(case aB=>exact pB);(case aF=>exact (fun _ _=>trivial));(case aO=>exact (Kd.Za HO_5.o pl));(case aS=>exact (Zb pB));(case aL=>have := LMc7.o;omega);intro q6 w8 ho hb hg hat;rw [<- qv.out] at ho;have qr:=am ho;replace HB:=am hb;clear HO_5 ho hb hg hat))
        go_roundg k1
        case measure=>exact pM
        case rel=>exact ⟨(q0),(1),(wrap64 (x7_1+1)),pR,pR,H',pJ,⟨by refine rp ?_;exact qr.o⟩,⟨pB⟩⟩
       ·rw [if_neg c7] at H
        cases H
      ·by_cases c9:x5_1.length < 17592186044416
       ·rw [if_pos c9] at H
        have LMc9:=am c9
        clear c9
        obtain ⟨q1,qj⟩:∃ y_:List Int,y_=(x5_1 ++ [wrap64 ((wrap64 ((rd l0 x7_1) - x6_1)) - (rd l1 x7_1))]):=⟨_,rfl⟩
        replace H:(Zah.l0 k1 l0 l1 q1 0 (wrap64 (x7_1+1)))=some r:=by have hy_:=qj;exact pH
        have qw:=am qj
        clear qj
        have H':=am H
        clear H
        have qc:0<=(x7_1:Int):=of_decide_eq_true pQ
        have qd:x7_1 < (l0.length:Int):=of_decide_eq_true pQ
        obtain ⟨qh,qe,qa⟩:=Kd.Zay HR0.o x7_1 qc qd
        cases qe
        replace qa:=(HB.o.cell (World.block_lt_of_cell? w _ qa)).trans qa
        replace qc:=eq_true qc
        replace qd:=eq_true qd
        have qf:0<=(x7_1:Int):=of_decide_eq_true pQ
        have qg:x7_1 < (l1.length:Int):=of_decide_eq_true pQ
        obtain ⟨qz,qo,qb⟩:=Kd.Zay HR1.o x7_1 qf qg
        cases qo
        replace qb:=(HB.o.cell (World.block_lt_of_cell? w _ qb)).trans qb
        replace qf:=eq_true qf
        replace qg:=eq_true qg
        go_wp2_with (first|((with_reducible refine Zar (b:=.append) (xs:=#[.tmp 35,.tmp 37]) rfl ?_);at_builtin;refine Kd.Zb3 (Kd.int .i64) (w0:=w) w.heap.size rfl (.tmp 35) (.tmp 37) 28 3 (.int .i64 0) 8 rfl Tryz.underlying28 info3 rfl (by decide) (by omega) u5 x5_1 (wrap64 ((wrap64 ((rd l0 x7_1) - x6_1)) - (rd l1 x7_1))) [.int .i64 (wrap64 ((wrap64 ((rd l0 x7_1) - x6_1)) - (rd l1 x7_1)))] (fun _=>True) (fun _=>False) rfl rfl ?aP (fun _ hk=>hk.elim) ?aF ?aO ?aB ?aS ?aL ?_;(case aP=>exact rfl);(case aB=>exact pB);(case aF=>exact (fun _ _=>trivial));(case aO=>exact (Kd.Za HO_5.o pl));(case aS=>exact (Zb pB));(case aL=>have := LMc9.o;omega);intro q7 w10 ho hb hg hat;rw [<- qw.out] at ho;have qs:=am ho;replace HB:=am hb;clear HO_5 ho hb hg hat))
        go_roundg k1
        case measure=>exact pM
        case rel=>exact ⟨(q1),(0),(wrap64 (x7_1+1)),pR,pR,H',pJ,⟨by refine rp ?_;exact qs.o⟩,⟨pB⟩⟩
       ·rw [if_neg c9] at H
        cases H
     ·replace H:=dI H
      rcases H with ⟨c11b0,H⟩|⟨c11b0,H⟩
      ·by_cases c12:x5_1.length < 17592186044416
       ·rw [if_pos c12] at H
        have LMc12:=am c12
        clear c12
        obtain ⟨q2,qk⟩:∃ y_:List Int,y_=(x5_1 ++ [wrap64 ((wrap64 ((rd l0 x7_1) - x6_1))+10)]):=⟨_,rfl⟩
        replace H:(Zah.l0 k1 l0 l1 q2 1 (wrap64 (x7_1+1)))=some r:=by have hy_:=qk;exact pH
        have qx:=am qk
        clear qk
        have H':=am H
        clear H
        have qc:0<=(x7_1:Int):=of_decide_eq_true pQ
        have qd:x7_1 < (l0.length:Int):=of_decide_eq_true pQ
        obtain ⟨qh,qe,qa⟩:=Kd.Zay HR0.o x7_1 qc qd
        cases qe
        replace qa:=(HB.o.cell (World.block_lt_of_cell? w _ qa)).trans qa
        replace qc:=eq_true qc
        replace qd:=eq_true qd
        go_wp2_with (first|((with_reducible refine Zar (b:=.append) (xs:=#[.tmp 35,.tmp 37]) rfl ?_);at_builtin;refine Kd.Zb3 (Kd.int .i64) (w0:=w) w.heap.size rfl (.tmp 35) (.tmp 37) 28 3 (.int .i64 0) 8 rfl Tryz.underlying28 info3 rfl (by decide) (by omega) u5 x5_1 (wrap64 ((wrap64 ((rd l0 x7_1) - x6_1))+10)) [.int .i64 (wrap64 ((wrap64 ((rd l0 x7_1) - x6_1))+10))] (fun _=>True) (fun _=>False) rfl rfl ?aP (fun _ hk=>hk.elim) ?aF ?aO ?aB ?aS ?aL ?_;(case aP=>exact rfl);(case aB=>exact pB);(case aF=>exact (fun _ _=>trivial));(case aO=>exact (Kd.Za HO_5.o pl));(case aS=>exact (Zb pB));(case aL=>have := LMc12.o;omega);intro q8 w13 ho hb hg hat;rw [<- qx.out] at ho;have qt:=am ho;replace HB:=am hb;clear HO_5 ho hb hg hat))
        go_roundg k1
        case measure=>exact pM
        case rel=>exact ⟨(q2),(1),(wrap64 (x7_1+1)),pR,pR,H',pJ,⟨by refine rp ?_;exact qt.o⟩,⟨pB⟩⟩
       ·rw [if_neg c12] at H
        cases H
      ·by_cases c14:x5_1.length < 17592186044416
       ·rw [if_pos c14] at H
        have LMc14:=am c14
        clear c14
        obtain ⟨q3,ql⟩:∃ y_:List Int,y_=(x5_1 ++ [wrap64 ((rd l0 x7_1) - x6_1)]):=⟨_,rfl⟩
        replace H:(Zah.l0 k1 l0 l1 q3 0 (wrap64 (x7_1+1)))=some r:=by have hy_:=ql;exact pH
        have qy:=am ql
        clear ql
        have H':=am H
        clear H
        have qc:0<=(x7_1:Int):=of_decide_eq_true pQ
        have qd:x7_1 < (l0.length:Int):=of_decide_eq_true pQ
        obtain ⟨qh,qe,qa⟩:=Kd.Zay HR0.o x7_1 qc qd
        cases qe
        replace qa:=(HB.o.cell (World.block_lt_of_cell? w _ qa)).trans qa
        replace qc:=eq_true qc
        replace qd:=eq_true qd
        go_wp2_with (first|((with_reducible refine Zar (b:=.append) (xs:=#[.tmp 35,.tmp 37]) rfl ?_);at_builtin;refine Kd.Zb3 (Kd.int .i64) (w0:=w) w.heap.size rfl (.tmp 35) (.tmp 37) 28 3 (.int .i64 0) 8 rfl Tryz.underlying28 info3 rfl (by decide) (by omega) u5 x5_1 (wrap64 ((rd l0 x7_1) - x6_1)) [.int .i64 (wrap64 ((rd l0 x7_1) - x6_1))] (fun _=>True) (fun _=>False) rfl rfl ?aP (fun _ hk=>hk.elim) ?aF ?aO ?aB ?aS ?aL ?_;(case aP=>exact rfl);(case aB=>exact pB);(case aF=>exact (fun _ _=>trivial));(case aO=>exact (Kd.Za HO_5.o pl));(case aS=>exact (Zb pB));(case aL=>have := LMc14.o;omega);intro q9 w15 ho hb hg hat;rw [<- qy.out] at ho;have qu:=am ho;replace HB:=am hb;clear HO_5 ho hb hg hat))
        go_roundg k1
        case measure=>exact pM
        case rel=>exact ⟨(q3),(0),(wrap64 (x7_1+1)),pR,pR,H',pJ,⟨by refine rp ?_;exact qu.o⟩,⟨pB⟩⟩
       ·rw [if_neg c14] at H
        cases H
    ·cases H
   ·replace H:=ob H
    obtain ⟨qp,A16,H⟩:=H
    obtain rfl:=Option.some.inj H
    obtain ⟨qm,qn,q4⟩:=Kd.Zh HO_5.o
    subst q4
    go_wp2_with (first|(refine gL (some 40) Tryz.func79 #[.slice qm x5_1.length qn] (h:=?_);(with_reducible refine (Zl.calls k1 (fun k_=>some k_=(.slice qm x5_1.length qn:Value).ownBlock) (.slice qm x5_1.length qn) x5_1 qp w _ ?side1 ?side2 A16.o).mono ?_);(case side1=>exact pB);(case side2=>exact Kd.Zby rfl HO_5.o);rintro e w18 ⟨q5,rfl,ho0,hb,hkp⟩;refine ⟨_,rfl,?_⟩;have qq:=am (Kd.Zo (ok':=fun k_=>True) ho0 (fun k_ hk_=>trivial));replace HB:=am hb;clear HO_5))
    go_ret
    exact ⟨_,pE,by refine rp ?_;exact qq.o,pB⟩
def Za7.f (l0:List Int) (a1:Int):Option (List Int):=if (l0.length:Int)=0 then (some ([]:List Int)) else (if 0<=a1 then (if (a1:Int).toNat<=35184372088832 then ((some (List.replicate (a1:Int).toNat 0:List Int)).bind fun qa=>(if qa.length+l0.length < 17592186044416 then (some (qa++l0)) else (none))) else (none)) else (none))
theorem Za7.calls (A0:Option Addr) (c0:Nat) (l0:List Int) (a1:Int) (r:List Int) (w:World) (hr0:Kd.C (Kd.int .i64) w A0 l0.length l0) (hc0:l0.length<=c0) (h:Za7.f l0 a1=some r) :
  Calls Tryz.prog 93 #[.slice A0 l0.length c0,.int .i64 a1] w fun e w' => ∃ v0_:Value,e=.returned (v0_)/\Kd.R (Kd.int .i64) 3 w' w.heap.size (fun _=>True) v0_ r/\Below w.heap.size w w':=by
 have HR0:=am hr0
 have HC0:=am hc0
 clear hr0 hc0
 have HB:=am (Below.refl w.heap.size w)
 have H:(if (l0.length:Int)=0 then (some ([]:List Int)) else (if 0<=a1 then (if (a1:Int).toNat<=35184372088832 then ((some (List.replicate (a1:Int).toNat 0:List Int)).bind fun qa=>(if qa.length+l0.length < 17592186044416 then (some (qa++l0)) else (none))) else (none)) else (none)))=some r:=h
 clear h
 replace H:=eI H
 rcases H with ⟨c3b0,c3b1,H⟩|⟨c3,c3b0,c3b1,H⟩
 ·obtain rfl:=Option.some.inj H
  go_enter Tryz.func93,Tryz.ntmps93
  go_wp2
  go_ret
  exact ⟨_,pE,pN,pB⟩
 ·have c3b2:¬ (l0=[]):=fun h_=>c3 (by rw [h_];rfl)
  replace H:=iI H
  rcases H with ⟨c4b0,c4b1,H⟩|⟨_,_,H⟩
  ·replace H:=iI H
   rcases H with ⟨c5b0,c5b1,H⟩|⟨_,_,H⟩
   ·obtain ⟨qa,qb⟩:∃ y_:List Int,y_=(List.replicate (a1:Int).toNat 0):=⟨_,rfl⟩
    replace H:(if qa.length+l0.length < 17592186044416 then (some (qa++l0)) else (none))=some r:=by have hy_:=qb;exact pH
    have qe:=am qb
    clear qb
    by_cases c6:qa.length+l0.length < 17592186044416
    ·rw [if_pos c6] at H
     have LMc6:=am c6
     clear c6
     obtain ⟨qi,qc⟩:∃ y_:List Int,y_=(qa++l0):=⟨_,rfl⟩
     replace H:(some qi)=some r:=by have hy_:=qc;exact pH
     have qg:=am qc
     clear qc
     obtain rfl:=Option.some.inj H
     go_enter Tryz.func93,Tryz.ntmps93
     go_wp2_with (first|((with_reducible refine gd 10 ?_);refine Kd.Zks (Kd.int .i64) _ 3 rfl (N:=10) rfl 28 _ _ rfl a1 rfl rfl Tryz.underlying28 (.int .i64 0) 8 info3 rfl (by decide) (by omega) 0 (ok:=fun _=>True) (okp:=fun _=>True) rfl (fun _ hk=>hk) trivial (of_decide_eq_true pQ) (Nat.le_trans (Nat.mul_le_mul_right _ (of_decide_eq_true pQ:a1.toNat<=35184372088832)) (by omega)) (Below.refl _ _) (Nat.le_refl _) ?_;intro qh w7 ho8 hb hg_ hnew_;clear hg_ hnew_;(first|rw [<- qe.out] at ho8|(simp only [Int.reduceToNat] at ho8;rw [<- qe.out] at ho8));have qd:=am (Kd.Zn ho8 (Zb pB));replace HB:=bS hb;clear hb ho8)|((with_reducible refine Zar (b:=.append) (xs:=#[.tmp 11,.tmp 12]) rfl ?_);at_builtin;refine Kd.Zdx (Kd.int .i64) (w0:=w) w.heap.size rfl (.tmp 11) (.tmp 12) 28 3 (.int .i64 0) 8 rfl Tryz.underlying28 info3 rfl (by decide) (by omega) qh qa l0 _ _ _ (fun _=>True) (fun _=>False) rfl rfl ?aO ?aR (fun _ _ h=>h) (fun _ h=>h.elim) ?aF ?aB ?aS ?aL ?_;(case aR=>exact cB HR0 HB);(case aB=>exact pB);(case aF=>exact (fun _ _=>trivial));(case aO=>exact (Kd.Za qd.o pl));(case aS=>exact (Zb pB));(case aL=>have := LMc6.o;omega);intro qj w9 ho hb hg hat;rw [<- qg.out] at ho;have qf:=am ho;replace HB:=am hb;clear qd ho hb hg hat))
     go_ret
     exact ⟨_,pE,by refine rp ?_;exact qf.o,pB⟩
    ·rw [if_neg c6] at H
     cases H
   ·cases H
  ·cases H
end YtjbjkmccfocikaaGreatDoor.B
end
section
namespace YtjbjkmccfocikaaGreatDoor.P
open Go.RowKit YtjbjkmccfocikaaGreatDoor.B YtjbjkmccfocikaaGreatDoorW.PrintWords YtjbjkmccfocikaaGreatDoor.P.Nm
def cmpN (a b:Nat):Int:=if a < b then -1 else if b < a then 1 else 0
theorem Zhn {b:Int} (l:List Int) (j:Nat) (h:j<=l.length):val b l=val b (l.take j)+pw b j*val b (l.drop j):=by
 conv=>lhs;rw [<- List.take_append_drop j l]
 rw [Zg7,List.length_take,Nat.min_eq_left h]
theorem Znf {a b:List Int} (ha:Dg 10 a) (hb:Dg 10 b) (hl:a.length=b.length) {j:Nat} (hj:j < a.length) (hd:a.drop (j+1)=b.drop (j+1)) (h:a.getD j 0 < b.getD j 0):val 10 a < val 10 b:=by
 rw [Zhn a j (by omega),Zhn b j (by omega),Zfs hj,Zfs (show j < b.length by omega),hd,Zbk,Zbk]
 have h1:=Zd2 (b:=10) (by omega) (ha.take j)
 have h2:=Zbj (b:=10) (by omega) (hb.take j)
 rw [List.length_take,Nat.min_eq_left (by omega)] at h1
 have hp:=Zfg (b:=10) (by omega) j
 have h3:=Int.mul_le_mul_of_nonneg_left (show a.getD j 0+10*val 10 (b.drop (j+1))+1<=b.getD j 0+10*val 10 (b.drop (j+1)) by omega) (Int.le_of_lt hp)
 rw [Int.mul_add (pw 10 j) (_+_) 1] at h3
 omega
theorem Zm1 (x y:List Int) (hx:Dg 10 x) (hy:Dg 10 y) (hl:x.length=y.length) (hb:x.length<=1000000) (m n:Nat) (hm:val 10 x=m) (hn:val 10 y=n):∀ j:Nat,j<=x.length->x.drop j=y.drop j->Tells (fun k=>Zal.l0 k x y ((j:Int) - 1)) (cmpN m n)
 | 0,h,hd=>by
  refine Tells.succ ?_
  simp only [Zal.l0]
  refine Tells.ifn (by omega) ((Tells.pure _).val ?_)
  rw [List.drop_zero,List.drop_zero] at hd
  rw [hd] at hm
  unfold cmpN
  rw [if_neg (by omega),if_neg (by omega)]
 | j+1,h,hd=>by
  have hj:j < x.length:=by omega
  have hj2:j < y.length:=by omega
  have c0:(j:Int) >= 0:=by omega
  have c1:(0:Int)<=(j:Int):=by omega
  have c2:(j:Int) < (x.length:Int):=by omega
  have c3:(j:Int) < (y.length:Int):=by omega
  refine Tells.succ ?_
  simp only [Zal.l0]
  rw [Zgc,rd_n,rd_n,w64d (by omega)]
  refine Tells.ifp c0 (Tells.ifp c1 (Tells.ifp c2 (Tells.ifp c3 ?_)))
  by_cases h1:x.getD j 0 < y.getD j 0
  ·refine Tells.ifp h1 ((Tells.pure _).val ?_)
   have := Znf hx hy hl hj hd h1
   unfold cmpN;rw [if_pos (by omega)]
  ·refine Tells.ifn h1 ?_
   by_cases h2:y.getD j 0 < x.getD j 0
   ·refine Tells.ifp h2 ((Tells.pure _).val ?_)
    have := Znf hy hx hl.symm hj2 hd.symm h2
    unfold cmpN;rw [if_neg (by omega),if_pos (by omega)]
   ·refine Tells.ifn h2 (Zm1 x y hx hy hl hb m n hm hn j (by omega) ?_)
    rw [Zfs hj,Zfs hj2,hd]
    congr 1
    omega
theorem Zfz (m n:Nat) (hm:nd m<=1000000):Tells (fun k=>Zal.f k (digs m) (digs n)) (cmpN m n):=by
 unfold Zal.f
 have hm':(digs m).length<=1000000:=hm
 by_cases h1:(digs m).length < (digs n).length
 ·refine Tells.ifp (by omega) ((Tells.pure _).val ?_)
  have := Zfd (b:=10) (by omega) (Zcg m) (Zcg n) (Zix n) h1
  rw [Zco,Zco] at this
  unfold cmpN;rw [if_pos (by omega)]
 ·refine Tells.ifn (by omega) ?_
  by_cases h2:(digs n).length < (digs m).length
  ·refine Tells.ifp (by omega) ((Tells.pure _).val ?_)
   have := Zfd (b:=10) (by omega) (Zcg n) (Zcg m) (Zix m) h2
   rw [Zco,Zco] at this
   unfold cmpN;rw [if_neg (by omega),if_pos (by omega)]
  ·refine Tells.ifn (by omega) ?_
   have h3:(digs m).length=(digs n).length:=by omega
   have := Zm1 (digs m) (digs n) (Zcg m) (Zcg n) h3 hm m n (Zco m) (Zco n) (digs m).length (Nat.le_refl _) (by rw [List.drop_length,h3,List.drop_length])
   rw [w64d (by omega)]
   exact this
theorem Zct {b:Int} (l:List Int) (k:Nat):val b (l.take (k+1))=val b (l.take k)+pw b k*l.getD k 0:=by
 by_cases h:k < l.length
 ·rw [Zjb h,Zdm,List.length_take,Nat.min_eq_left (by omega)]
 ·rw [List.take_of_length_le (by omega),List.take_of_length_le (by omega),List.getD,List.getElem?_eq_none (by omega)]
  simp
theorem Ziv {b:Int} (hb:0 < b) {l:List Int} (h:Dg b l) (i:Nat):0<=l.getD i 0/\l.getD i 0 < b:=by
 by_cases hk:i < l.length
 ·exact Zk5 h hk
 ·rw [List.getD,List.getElem?_eq_none (by omega)];exact ⟨Int.le_refl _,hb⟩
theorem Ze3 {l:List Int} {i:Nat} (h:l.length<=i):l.getD i 0=0:=by rw [List.getD,List.getElem?_eq_none h];rfl
theorem Zo1 (x y:List Int) (hx:Dg 10 x) (hy:Dg 10 y) (hxl:x.length<=500000) (hyl:y.length<=500000):∀ (d i:Nat) (o:List Int),max x.length y.length - i=d->i<=max x.length y.length->o.length=i->(∀ z ∈ o,0<=z/\z<=18)->val 10 o=val 10 (x.take i)+val 10 (y.take i) ->
  Tells (fun k=>Zw.l0 k x y o (i:Int)) (digs (val 10 x+val 10 y).toNat)
 | 0,i,o,hd,hi,ho,hz,hv=>by
  have c1:¬ ((i:Int) < (x.length:Int)):=by omega
  have c2:¬ ((i:Int) < (y.length:Int)):=by omega
  have hc:=Zit o (fun z h=>by have := hz z h;omega) (by omega)
  rw [hv,List.take_of_length_le (by omega),List.take_of_length_le (by omega)] at hc
  refine Tells.succ ?_
  simp only [Zw.l0]
  refine Tells.ifn c1 (Tells.succ ?_)
  simp only [Zw.j1]
  refine Tells.ifn (by rw [decide_eq_false c2];simp) (hc.bind (Tells.pure _))
 | d+1,i,o,hd,hi,ho,hz,hv=>by
  have hxi:=Ziv (by omega) hx i
  have hyi:=Ziv (by omega) hy i
  obtain ⟨u,hu⟩:∃ u:Nat,x.getD i 0=(u:Int):=⟨(x.getD i 0).toNat,by omega⟩
  obtain ⟨v,hvv⟩:∃ v:Nat,y.getD i 0=(v:Int):=⟨(y.getD i 0).toNat,by omega⟩
  have ih:=Zo1 x y hx hy hxl hyl d (i+1) (o ++ [((u+v:Nat):Int)]) (by omega) (by omega) (by simp [ho]) (fun z h=>by
   rcases List.mem_append.1 h with h|h
   ·exact hz z h
   ·rw [List.mem_singleton.1 h];omega) (by rw [Zct,Zct,Zdm,ho,hv,hu,hvv,Int.natCast_add,Int.mul_add];omega)
  have c4:o.length < 17592186044416:=by omega
  have c3:(0:Int)<=(i:Int):=by omega
  have c5:i < 9223372036854775807:=by omega
  have b1:u+v<=9223372036854775807:=by omega
  have b2:u<=9223372036854775807:=by omega
  have b3:v<=9223372036854775807:=by omega
  by_cases h1:i < x.length
  ·have c1:(i:Int) < (x.length:Int):=by omega
   refine Tells.succ ?_
   simp only [Zw.l0]
   refine Tells.ifp c1 (Tells.succ ?_)
   simp only [Zw.j1]
   refine Tells.ifp trivial (Tells.ifp c1 (Tells.ifp c3 ?_))
   rw [rd_n,rd_n,hu,hvv,w64c b2,w64p b1,w64s c5]
   by_cases h2:i < y.length
   ·refine Tells.ifp (by omega) (Tells.ifp c4 ih)
   ·have h0:v=0:=by have := Ze3 (l:=y) (i:=i) (by omega);omega
    rw [h0,Nat.add_zero] at ih
    refine Tells.ifn (by omega) (Tells.ifp c4 ih)
  ·have c1:¬ ((i:Int) < (x.length:Int)):=by omega
   have c2:(i:Int) < (y.length:Int):=by omega
   have h0:u=0:=by have := Ze3 (l:=x) (i:=i) (by omega);omega
   rw [h0,Nat.zero_add] at ih
   refine Tells.succ ?_
   simp only [Zw.l0]
   refine Tells.ifn c1 (Tells.succ ?_)
   simp only [Zw.j1]
   refine Tells.ifp (by rw [decide_eq_true c2]) (Tells.ifn c1 (Tells.ifp c2 (Tells.ifp c3 ?_)))
   rw [rd_n,hvv,w64c b3,w64s c5]
   exact Tells.ifp c4 ih
theorem Zjk (m n:Nat) (hm:nd m<=500000) (hn:nd n<=500000):Tells (fun k=>Zw.f k (digs m) (digs n)) (digs (m+n)):=by
 have := Zo1 (digs m) (digs n) (Zcg m) (Zcg n) hm hn _ 0 [] rfl (by omega) rfl (fun z h=>by cases h) (by simp [val])
 refine this.val ?_
 rw [Zco,Zco]
 congr 1
theorem Zmz (x y:List Int) (hx:Dg 10 x) (hy:Dg 10 y) (hxl:x.length<=1000000) (hyx:y.length<=x.length) (n:Nat) (hn:val 10 x - val 10 y=n):∀ (d i:Nat) (o:List Int) (c:Nat),x.length - i=d->i<=x.length->o.length=i->Dg 10 o->c<=1->val 10 o=val 10 (x.take i) - val 10 (y.take i)+pw 10 i*c ->
  Tells (fun k=>Zah.l0 k x y o (c:Int) (i:Int)) (digs n)
 | 0,i,o,c,hd,hi,ho,hD,hc,hv=>by
  obtain rfl:i=x.length:=by omega
  have c1:¬ ((x.length:Int) < (x.length:Int)):=by omega
  refine Tells.succ ?_
  simp only [Zah.l0]
  refine Tells.ifn c1 ((Zdy o (by omega)).bind ((Tells.pure _).val ?_))
  rw [List.take_length,List.take_of_length_le hyx,hn] at hv
  have h2:=Zd2 (b:=10) (by omega) hD
  rw [ho] at h2
  have hp:=Zfg (b:=10) (by omega) x.length
  have hc0:c=0:=by
   rcases Nat.eq_zero_or_pos c with h|h
   ·exact h
   ·obtain rfl:c=1:=by omega
    omega
  rw [hc0] at hv
  exact Zee hD (by omega)
 | d+1,i,o,c,hd,hi,ho,hD,hc,hv=>by
  have hil:i < x.length:=by omega
  have hxi:=Zk5 hx hil
  have hyi:=Ziv (by omega) hy i
  obtain ⟨u,hu⟩:∃ u:Nat,x.getD i 0=(u:Int):=⟨(x.getD i 0).toNat,by omega⟩
  obtain ⟨v,hvv⟩:∃ v:Nat,y.getD i 0=(v:Int):=⟨(y.getD i 0).toNat,by omega⟩
  have c1:(i:Int) < (x.length:Int):=by omega
  have c3:(0:Int)<=(i:Int):=by omega
  have c4:o.length < 17592186044416:=by omega
  have c5:i < 9223372036854775807:=by omega
  rw [hu] at hxi
  rw [hvv] at hyi
  have step:∀ (z:Int) (c':Nat),0<=z->z < 10->c'<=1->z=(u:Int) - c - v+10*c'->Tells (fun k=>Zah.l0 k x y (o ++ [z]) (c':Int) ((i+1:Nat):Int)) (digs n):=fun z c' z0 z1 hc' hz =>
   Zmz x y hx hy hxl hyx n hn d (i+1) (o ++ [z]) c' (by omega) (by omega) (by simp [ho]) (hD.app (Dg.one z0 z1)) hc' (by
    rw [Zct,Zct,Zdm,ho,hv,hu,hvv,hz,Zen]
    generalize pw 10 i=M
    have e:M*((u:Int) - c - v+10*c')=M*u - M*c - M*v+10*(M*c'):=by rw [Int.mul_add,Int.mul_sub,Int.mul_sub,Int.mul_left_comm M 10]
    have e2:10*M*(c':Int)=10*(M*c'):=Int.mul_assoc _ _ _
    omega)
  have b1 : -9223372036854775808<=(u:Int) - c:=by omega
  have b2:(u:Int) - c<=9223372036854775807:=by omega
  have b3 : -9223372036854775808<=(u:Int) - c - v:=by omega
  have b4:(u:Int) - c - v<=9223372036854775807:=by omega
  have b5 : -9223372036854775808<=(u:Int) - c - v+10:=by omega
  have b6:(u:Int) - c - v+10<=9223372036854775807:=by omega
  have b7 : -9223372036854775808<=(u:Int) - c+10:=by omega
  have b8:(u:Int) - c+10<=9223372036854775807:=by omega
  refine Tells.succ ?_
  simp only [Zah.l0]
  rw [rd_n,rd_n,hu,hvv,w64n b1 b2,w64n b3 b4,w64n b5 b6,w64n b7 b8,w64s c5]
  refine Tells.ifp c1 (Tells.ifp c3 ?_)
  by_cases h2:i < y.length
  ·refine Tells.ifp (by omega) ?_
   by_cases h3:(u:Int) - c - v < 0
   ·exact Tells.ifp h3 (Tells.ifp c4 (step _ 1 (by omega) (by omega) (by omega) (by omega)))
   ·exact Tells.ifn h3 (Tells.ifp c4 (step _ 0 (by omega) (by omega) (by omega) (by omega)))
  ·have h0:v=0:=by have := Ze3 (l:=y) (i:=i) (by omega);omega
   refine Tells.ifn (by omega) ?_
   by_cases h3:(u:Int) - c < 0
   ·exact Tells.ifp h3 (Tells.ifp c4 (step _ 1 (by omega) (by omega) (by omega) (by omega)))
   ·exact Tells.ifn h3 (Tells.ifp c4 (step _ 0 (by omega) (by omega) (by omega) (by omega)))
theorem Zik (m n:Nat) (h:n<=m) (hm:nd m<=1000000):Tells (fun k=>Zah.f k (digs m) (digs n)) (digs (m - n)):=by
 have hl:(digs n).length<=(digs m).length:=Zcv h
 have := Zmz (digs m) (digs n) (Zcg m) (Zcg n) hm hl (m - n) (by rw [Zco,Zco];omega) _ 0 [] 0 rfl (by omega) rfl (Dg.nil _) (by omega) (by simp [val])
 exact this
theorem Zf0 (n:Nat) (k:Nat) (hn:nd n<=1000000) (hk:k<=1000000):Za7.f (digs n) (k:Int)=some (digs (n*10 ^ k)):=by
 have hl:(digs n).length<=1000000:=hn
 unfold Za7.f
 by_cases h:n=0
 ·subst h;rw [Nat.zero_mul];rfl
 ·have h1:(digs n).length ≠ 0:=fun e=>Ziw h (List.eq_nil_of_length_eq_zero e)
  rw [if_neg (by omega),if_pos (by omega),if_pos (by omega),Option.bind_some,if_pos (by rw [List.length_replicate,Int.toNat_natCast];omega),Int.toNat_natCast,Zhx h]
theorem getD_set_ne {l:List Int} {i j:Nat} (x:Int) (h:i ≠ j):(l.set i x).getD j 0=l.getD j 0:=by
 simp [List.getD,List.getElem?_set_ne h]
theorem Zfn {b:Int}:∀ {l:List Int} {j:Nat} (x:Int),j < l.length->val b (l.set j x)=val b l+pw b j*(x - l.getD j 0)
 | y :: l,0,x,h=>by simp [val,pw];omega
 | y :: l,j+1,x,h=>by
  have ih:=Zfn (b:=b) (l:=l) (j:=j) x (by simpa using h)
  simp only [List.set_cons_succ,val,List.getD_cons_succ,pw]
  rw [ih,Int.mul_add,Int.mul_assoc,Int.add_assoc]
end YtjbjkmccfocikaaGreatDoor.P
end
section
namespace YtjbjkmccfocikaaGreatDoor.B
open Go.RowKit YtjbjkmccfocikaaGreatDoorW.PrintWords YtjbjkmccfocikaaGreatDoorW.PrintLast YtjbjkmccfocikaaGreatDoorW.PrintMore
attribute [local go_sem] Zch Zci Zc9 Zda Zb1 Zb2 Zcp Zcq
def Zbc.l0:Nat->List Int->List Int->Int->Option (ByteArray)
 | 0,_,_,_=>none
 | k+1,x0,x3,x4=>if x4 >= 0 then (if 0<=x4 then (if x4 < (x0.length:Int) then (if x3.length < 140737488355328 then (Zbc.l0 k x0 (x3 ++ [(wrap64 (48+(rd x0 x4))) % 256]) (wrap64 (x4 - 1))) else (none)) else (none)) else (none)) else (if (x3.length:Int)=0 then (some (⟨#[48]⟩:ByteArray)) else (some (strOfNums x3)))
def Zbc.f (k:Nat) (l0:List Int):Option (ByteArray):=Zbc.l0 k l0 ([]:List Int) (wrap64 ((l0.length:Int) - 1))
theorem Zbc.calls (k:Nat) (A0:Option Addr) (c0:Nat) (l0:List Int) (r:ByteArray) (w:World) (hr0:Kd.C (Kd.int .i64) w A0 l0.length l0) (hc0:l0.length<=c0) (h:Zbc.f k l0=some r) :
  Calls Tryz.prog 118 #[.slice A0 l0.length c0] w fun e w'=>e=.returned (.string r)/\Below w.heap.size w w':=by
 have HR0:=am hr0
 have HC0:=am hc0
 clear hr0 hc0
 have HB:=am (Below.refl w.heap.size w)
 have H:(Zbc.l0 k l0 ([]:List Int) (wrap64 ((l0.length:Int) - 1)))=some r:=h
 clear h
 have H':=am H
 clear H
 go_enter Tryz.func118,Tryz.ntmps118
 go_wp2
 go_loopg [3,4] k (fun kq v3 v4 w' => ∃ (x3_1:List Int) (x4_1:Int),v4=.int .i64 x4_1/\Aside0 (Zbc.l0 kq l0 x3_1 x4_1=some r)/\Aside0 (kq<=k)/\Aside0 (Kd.R (Kd.int .u8) 5 w' w.heap.size (fun _=>True) v3 x3_1)/\Aside0 (Below w.heap.size w w'))
 case atStart=>exact ⟨(([]:List Int)),(wrap64 ((l0.length:Int) - 1)),pR,H',⟨Nat.le_refl _⟩,⟨pN⟩,⟨pB⟩⟩
 case round =>
  clear H'
  obtain ⟨x3_1,x4_1,rfl,HA,HK1,HO_3,HB⟩:=hrel
  cases gk with
  | zero=>exact absurd HA.out (by simp [Zbc.l0])
  | succ k1 =>
   have H:=HA.out
   clear HA
   simp only [Zbc.l0] at H
   replace H:=hI H
   rcases H with ⟨c2b0,H⟩|⟨c2b0,H⟩
   ·replace H:=dI H
    rcases H with ⟨c3b0,H⟩|⟨_,H⟩
    ·replace H:=dI H
     rcases H with ⟨c4b0,H⟩|⟨_,H⟩
     ·by_cases c5:x3_1.length < 140737488355328
      ·rw [if_pos c5] at H
       have LMc5:=am c5
       clear c5
       obtain ⟨qg,qb⟩:∃ y_:List Int,y_=(x3_1 ++ [(wrap64 (48+(rd l0 x4_1))) % 256]):=⟨_,rfl⟩
       replace H:(Zbc.l0 k1 l0 qg (wrap64 (x4_1 - 1)))=some r:=by have hy_:=qb;exact pH
       have qf:=am qb
       clear qb
       have H':=am H
       clear H
       have qc:0<=(x4_1:Int):=of_decide_eq_true pQ
       have qd:x4_1 < (l0.length:Int):=of_decide_eq_true pQ
       obtain ⟨qi,qh,qa⟩:=Kd.Zay HR0.o x4_1 qc qd
       cases qh
       replace qa:=(HB.o.cell (World.block_lt_of_cell? w _ qa)).trans qa
       replace qc:=eq_true qc
       replace qd:=eq_true qd
       go_wp2_with (first|((with_reducible refine Zar (b:=.append) (xs:=#[.tmp 12,.tmp 19]) rfl ?_);at_builtin;refine Kd.Zb3 (Kd.int .u8) (w0:=w) w.heap.size rfl (.tmp 12) (.tmp 19) 146 5 (.int .u8 0) 1 rfl Tryz.underlying146 info5 rfl (by decide) (by omega) u3 x3_1 ((wrap64 (48+(rd l0 x4_1))) % 256) [.int .u8 ((wrap64 (48+(rd l0 x4_1))) % 256)] (fun _=>True) (fun _=>False) rfl rfl ?aP (fun _ hk=>hk.elim) ?aF ?aO ?aB ?aS ?aL ?_;(case aP=>exact rfl);(case aB=>exact pB);(case aF=>exact (fun _ _=>trivial));(case aO=>exact (Kd.Za HO_3.o pl));(case aS=>exact (Zb pB));(case aL=>have := LMc5.o;omega);intro qj w6 ho hb hg hat;rw [<- qf.out] at ho;have qe:=am ho;replace HB:=am hb;clear HO_3 ho hb hg hat))
       go_roundg k1
       case measure=>exact pM
       case rel=>exact ⟨(qg),(wrap64 (x4_1 - 1)),pR,H',pJ,⟨by refine rp ?_;exact qe.o⟩,⟨pB⟩⟩
      ·rw [if_neg c5] at H
       cases H
     ·cases H
    ·cases H
   ·replace H:=eI H
    rcases H with ⟨c7b0,c7b1,H⟩|⟨c7,c7b0,c7b1,H⟩
    ·obtain rfl:=Option.some.inj H
     obtain ⟨Ao8,co8,eo8⟩:=Kd.Zh HO_3.o
     subst eo8
     go_wp2
     go_ret
     exact ⟨pE,pB⟩
    ·have c7b2:¬ (x3_1=[]):=fun h_=>c7 (by rw [h_];rfl)
     obtain rfl:=Option.some.inj H
     obtain ⟨Ao9,co9,eo9⟩:=Kd.Zh HO_3.o
     subst eo9
     have hcv10:=Zh2 (P:=Tryz.prog) Tryz.underlying146 Tryz.underlying5 Tryz.underlying9 (Kd.Zd6 HO_3.o)
     go_wp2
     go_ret
     exact ⟨pE,pB⟩
def Zb6.f (l0:List Int):Option (Int):=if (l0.length:Int) > 256 then (some 5) else (if (l0.length:Int) > 0 then (if 0<=(wrap64 ((l0.length:Int) - 1)) then (if (wrap64 ((l0.length:Int) - 1)) < (l0.length:Int) then (if (rd l0 (wrap64 ((l0.length:Int) - 1)))=0 then (some 9) else (some 0)) else (none)) else (none)) else (some 0))
theorem Zb6.calls (A0:Option Addr) (c0:Nat) (l0:List Int) (r:Int) (w:World) (hr0:Kd.C (Kd.int .u32) w A0 l0.length l0) (hc0:l0.length<=c0) (h:Zb6.f l0=some r) :
  Calls Tryz.prog 91 #[.slice A0 l0.length c0] w fun e w'=>e=.returned (.int .i64 r)/\Drawn0 w w':=by
 have HR0:=am hr0
 have HC0:=am hc0
 clear hr0 hc0
 have H:(if (l0.length:Int) > 256 then (some 5) else (if (l0.length:Int) > 0 then (if 0<=(wrap64 ((l0.length:Int) - 1)) then (if (wrap64 ((l0.length:Int) - 1)) < (l0.length:Int) then (if (rd l0 (wrap64 ((l0.length:Int) - 1)))=0 then (some 9) else (some 0)) else (none)) else (none)) else (some 0)))=some r:=h
 clear h
 by_cases c2:(l0.length:Int) > 256
 ·rw [if_pos c2] at H
  have c2b0:decide (256 < (l0.length:Int))=true:=decide_eq_true c2
  have c2b1:decide (256 < l0.length)=true:=decide_eq_true (by omega)
  clear c2
  obtain rfl:=Option.some.inj H
  go_enter Tryz.func91,Tryz.ntmps91
  go_wp2
  go_ret
  exact ⟨pR,pD⟩
 ·rw [if_neg c2] at H
  have c2b0:decide (256 < (l0.length:Int))=false:=decide_eq_false c2
  have c2b1:decide (256 < l0.length)=false:=decide_eq_false (by omega)
  clear c2
  by_cases c3:(l0.length:Int) > 0
  ·rw [if_pos c3] at H
   have c3b0:decide (0 < (l0.length:Int))=true:=decide_eq_true c3
   have c3b1:decide (0 < l0.length)=true:=decide_eq_true (by omega)
   clear c3
   obtain ⟨ji4,hji4⟩:∃ j_:Int,(wrap64 ((l0.length:Int) - 1))=j_:=⟨_,rfl⟩
   replace H:(if 0<=(ji4) then (if (ji4) < (l0.length:Int) then (if (rd l0 (ji4))=0 then (some 9) else (some 0)) else (none)) else (none))=some r:=by first|(rw [hji4] at H;exact H)|(simp only [hji4] at H ⊢;exact H)
   have hji4w:(IntKind.i64.wrap ((l0.length:Int) - 1))=ji4:=(Zb9 _).trans hji4
   replace H:=dI H
   rcases H with ⟨c5b0,H⟩|⟨_,H⟩
   ·replace H:=dI H
    rcases H with ⟨c6b0,H⟩|⟨_,H⟩
    ·replace H:=eI H
     rcases H with ⟨c7b0,c7b1,H⟩|⟨c7,c7b0,c7b1,H⟩
     ·obtain rfl:=Option.some.inj H
      have qa:0<=((ji4):Int):=of_decide_eq_true pQ
      have qb:(ji4) < (l0.length:Int):=of_decide_eq_true pQ
      obtain ⟨qe,qd,qc⟩:=Kd.Zay HR0.o (ji4) qa qb
      cases qd
      replace qa:=eq_true qa
      replace qb:=eq_true qb
      go_enter Tryz.func91,Tryz.ntmps91
      go_wp2
      go_ret
      exact ⟨by first|rfl|(simp;done)|(simp only [<- hji4] <;> (first|rfl|simp))|(simp [*];done),pD⟩
     ·obtain rfl:=Option.some.inj H
      have qa:0<=((ji4):Int):=of_decide_eq_true pQ
      have qb:(ji4) < (l0.length:Int):=of_decide_eq_true pQ
      obtain ⟨qe,qd,qc⟩:=Kd.Zay HR0.o (ji4) qa qb
      cases qd
      replace qa:=eq_true qa
      replace qb:=eq_true qb
      go_enter Tryz.func91,Tryz.ntmps91
      go_wp2
      go_ret
      exact ⟨by first|rfl|(simp;done)|(simp only [<- hji4] <;> (first|rfl|simp))|(simp [*];done),pD⟩
    ·cases H
   ·cases H
  ·rw [if_neg c3] at H
   have c3b0:decide (0 < (l0.length:Int))=false:=decide_eq_false c3
   have c3b1:decide (0 < l0.length)=false:=decide_eq_false (by omega)
   clear c3
   obtain rfl:=Option.some.inj H
   go_enter Tryz.func91,Tryz.ntmps91
   go_wp2
   go_ret
   exact ⟨pR,pD⟩
mutual
def Zu.l0:Nat->List Int->List Int->List Int->List Int->Int->Option (List Int × List Int)
 | 0,_,_,_,_,_=>none
 | k+1,x0,x1,x6,x7,x8=>if x8 >= 0 then (if 0<=x8 then (if x8 < (x0.length:Int) then ((some (([rd x0 x8]:List Int):List Int)).bind fun qd=>(if qd.length+x7.length < 17592186044416 then ((Zl.f k (qd++x7)).bind fun qc=>(Zu.l1 k x0 x1 x6 qc x8)) else (none))) else (none)) else (none)) else ((Zl.f k x6).bind fun q4=>(some (q4,x7)))
def Zu.l1:Nat->List Int->List Int->List Int->List Int->Int->Option (List Int × List Int)
 | 0,_,_,_,_,_=>none
 | k+1,x0,x1,x6,x7,x8=>(Zal.f k x7 x1).bind fun qs=>(if qs >= 0 then ((Zah.f k x7 x1).bind fun qn=>(if 0<=x8 then (if x8 < (x6.length:Int) then (Zu.l1 k x0 x1 (x6.set (x8:Int).toNat (wrap64 ((rd x6 x8)+1))) qn x8) else (none)) else (none))) else (Zu.l0 k x0 x1 x6 x7 (wrap64 (x8 - 1))))
end
def Zu.f (k:Nat) (l0:List Int) (l1:List Int):Option (List Int × List Int):=if 0<=(l0.length:Int) then (if ((l0.length:Int):Int).toNat<=35184372088832 then (Zu.l0 k l0 l1 (List.replicate ((l0.length:Int):Int).toNat 0) ([]:List Int) (wrap64 ((l0.length:Int) - 1))) else (none)) else (none)
theorem Zu.calls (k:Nat) (A0:Option Addr) (c0:Nat) (l0:List Int) (A1:Option Addr) (c1:Nat) (l1:List Int) (r1:List Int) (r2:List Int) (w:World) (hr0:Kd.C (Kd.int .i64) w A0 l0.length l0) (hc0:l0.length<=c0) (hr1:Kd.C (Kd.int .i64) w A1 l1.length l1) (hc1:l1.length<=c1) (h:Zu.f k l0 l1=some (r1,r2)) :
  Calls Tryz.prog 92 #[.slice A0 l0.length c0,.slice A1 l1.length c1] w fun e w' => ∃ v0_ v1_:Value,e=.returned (.tuple #[v0_,v1_])/\Kd.R (Kd.int .i64) 3 w' w.heap.size (fun k_=>some k_ ≠ (v1_:Value).ownBlock) v0_ r1/\Kd.R (Kd.int .i64) 3 w' w.heap.size (fun k_=>some k_ ≠ (v0_:Value).ownBlock) v1_ r2/\Below w.heap.size w w':=by
 have HR0:=am hr0
 have HC0:=am hc0
 clear hr0 hc0
 have HR1:=am hr1
 have HC1:=am hc1
 clear hr1 hc1
 have HB:=am (Below.refl w.heap.size w)
 have H:(if 0<=(l0.length:Int) then (if ((l0.length:Int):Int).toNat<=35184372088832 then (Zu.l0 k l0 l1 (List.replicate ((l0.length:Int):Int).toNat 0) ([]:List Int) (wrap64 ((l0.length:Int) - 1))) else (none)) else (none))=some (r1,r2):=h
 clear h
 replace H:=iI H
 rcases H with ⟨c3b0,c3b1,H⟩|⟨_,_,H⟩
 ·replace H:=iI H
  rcases H with ⟨c4b0,c4b1,H⟩|⟨_,_,H⟩
  ·obtain ⟨jf,qj⟩:∃ y_:List Int,y_=(List.replicate ((l0.length:Int):Int).toNat 0):=⟨_,rfl⟩
   replace H:(Zu.l0 k l0 l1 jf ([]:List Int) (wrap64 ((l0.length:Int) - 1)))=some (r1,r2):=by have hy_:=qj;exact pH
   have qu:=am qj
   clear qj
   have H':=am H
   clear H
   go_enter Tryz.func92,Tryz.ntmps92
   go_wp2_with (first|((with_reducible refine gd 11 ?_);refine Kd.Zks (Kd.int .i64) _ 3 rfl (N:=11) rfl 28 _ _ rfl (l0.length:Int) rfl rfl Tryz.underlying28 (.int .i64 0) 8 info3 rfl (by decide) (by omega) 0 (ok:=fun _=>True) (okp:=fun _=>True) rfl (fun _ hk=>hk) trivial (of_decide_eq_true pQ) (Nat.le_trans (Nat.mul_le_mul_right _ (of_decide_eq_true pQ:(l0.length:Int).toNat<=35184372088832)) (by omega)) (Below.refl _ _) (Nat.le_refl _) ?_;intro qa w5 ho6 hb hg_ hnew_;clear hg_ hnew_;(first|rw [<- qu.out] at ho6|(simp only [Int.reduceToNat] at ho6;rw [<- qu.out] at ho6));have q6:=am (Kd.Zn ho6 (Zb pB));replace HB:=bS hb;clear hb ho6))
   go_loopg [7,8] k (fun kq v7 v8 w' => ∃ (x6_1:List Int) (x7_1:List Int) (x8_1:Int),v8=.int .i64 x8_1/\Aside0 (Zu.l0 kq l0 l1 x6_1 x7_1 x8_1=some (r1,r2))/\Aside0 (kq<=k)/\Aside0 (Kd.R (Kd.int .i64) 3 w' w.heap.size (fun k_=>some k_ ≠ (v7:Value).ownBlock) qa x6_1)/\Aside0 (Kd.R (Kd.int .i64) 3 w' w.heap.size (fun k_=>some k_ ≠ (qa:Value).ownBlock) v7 x7_1)/\Aside0 (Below w.heap.size w w'))
   case atStart=>exact ⟨(jf),(([]:List Int)),(wrap64 ((l0.length:Int) - 1)),pR,H',⟨Nat.le_refl _⟩,⟨by refine rp ?_;exact Kd.Zo q6.o (fun _ hk=>(by simp [Value.ownBlock]))⟩,⟨pN⟩,⟨pB⟩⟩
   case round =>
    clear H'
    obtain ⟨x6_1,x7_1,x8_1,rfl,HA,HK1,HO_6,HO_7,HB⟩:=hrel
    cases gk with
    | zero=>exact absurd HA.out (by simp [Zu.l0])
    | succ k1 =>
     have H:=HA.out
     clear HA
     simp only [Zu.l0] at H
     replace H:=hI H
     rcases H with ⟨c7b0,H⟩|⟨c7b0,H⟩
     ·replace H:=dI H
      rcases H with ⟨c8b0,H⟩|⟨_,H⟩
      ·replace H:=dI H
       rcases H with ⟨c9b0,H⟩|⟨_,H⟩
       ·obtain ⟨qd,qk⟩:∃ y_:List Int,y_=(([rd l0 x8_1]:List Int)):=⟨_,rfl⟩
        replace H:(if qd.length+x7_1.length < 17592186044416 then ((Zl.f k1 (qd++x7_1)).bind fun qc=>(Zu.l1 k1 l0 l1 x6_1 qc x8_1)) else (none))=some (r1,r2):=by have hy_:=qk;exact pH
        have qv:=am qk
        clear qk
        by_cases c10:qd.length+x7_1.length < 17592186044416
        ·rw [if_pos c10] at H
         have LMc10:=am c10
         clear c10
         obtain ⟨qo,ql⟩:∃ y_:List Int,y_=(qd++x7_1):=⟨_,rfl⟩
         replace H:((Zl.f k1 qo).bind fun qc=>(Zu.l1 k1 l0 l1 x6_1 qc x8_1))=some (r1,r2):=by have hy_:=ql;exact pH
         have q9:=am ql
         clear ql
         replace H:=ob H
         obtain ⟨qc,A11,H⟩:=H
         have H':=am H
         clear H
         have q0:0<=(x8_1:Int):=of_decide_eq_true pQ
         have q2:x8_1 < (l0.length:Int):=of_decide_eq_true pQ
         obtain ⟨js,ji,qb⟩:=Kd.Zay HR0.o x8_1 q0 q2
         cases ji
         replace qb:=(HB.o.cell (World.block_lt_of_cell? w _ qb)).trans qb
         replace q0:=eq_true q0
         replace q2:=eq_true q2
         go_wp2_with (first|((with_reducible refine gd 23 ?_);refine Kd.Zhs (Kd.int .i64) _ 3 ?hg (N:=23) ?hd (xs:=([rd l0 x8_1]:List Int)) (inner:=[.int .i64 (rd l0 x8_1)]) (ok:=fun _=>True) (okp:=fun _=>True) ?hr ?hp (fun _ hk=>hk) trivial (Below.refl _ _) (Nat.le_refl _) (by simp) ?_;(case hd=>rfl);(case hg=>rfl);(case hr=>first|(go_simp;done)|(go_simp;rfl));(case hp=>exact (Reps.one (show Kd.M (Kd.int .i64) _ _ _ (rd l0 x8_1) [.int .i64 (rd l0 x8_1)] from rfl) (Reps.none _ _)));intro jr w12 ho13 hb hg_ hnew_;clear hg_ hnew_;(first|rw [<- qv.out] at ho13|(simp only [Int.reduceToNat] at ho13;rw [<- qv.out] at ho13));have qt:=am (Kd.Zn (Kd.Zf (Kd.Zf ho13 (Kd.R_lt (Kd.Za HO_6.o pl))) (Kd.R_lt (Kd.Za HO_7.o pl))) (Zb pB));replace HO_6:=reR HO_6 ho13 hb;replace HO_7:=reR HO_7 ho13 hb;replace HB:=bS hb;clear hb ho13;obtain ⟨qp,qq,jk⟩:=Kd.Zh HO_7.o;subst jk)|((with_reducible refine Zar (b:=.append) (xs:=#[.tmp 23,.tmp 24]) rfl ?_);at_builtin;refine Kd.Zdx (Kd.int .i64) (w0:=w) w.heap.size rfl (.tmp 23) (.tmp 24) 28 3 (.int .i64 0) 8 rfl Tryz.underlying28 info3 rfl (by decide) (by omega) jr qd x7_1 _ _ _ (fun k_=>some k_ ≠ (qa:Value).ownBlock/\some k_ ≠ (.slice qp x7_1.length qq:Value).ownBlock) (fun _=>False) rfl rfl ?aO ?aR (fun _ _ h=>h) (fun _ h=>h.elim) ?aF ?aB ?aS ?aL ?_;(case aR=>exact Kd.Zi (Kd.Zc HO_7.o).2.2 pl);(case aB=>exact pB);(case aF=>exact (fun k_ hk=>⟨Kd.fresh' (Kd.R_lt (Kd.Za HO_6.o pl)) k_ hk,Kd.fresh' (Kd.R_lt (Kd.Za HO_7.o pl)) k_ hk⟩));(case aO=>exact (Kd.Za (Kd.Zo qt.o (fun _ hk=>⟨hk.1.2,hk.2⟩)) pl));(case aS=>exact (Zb pB));(case aL=>have := LMc10.o;omega);intro jw w14 ho hb hg hat;rw [<- q9.out] at ho;have qg:=am ho;replace HO_6:=am (Kd.Zfj (ok:=(fun k_=>some k_ ≠ (.slice qp x7_1.length qq:Value).ownBlock)) (Kd.Za HO_6.o pl) hg hat);replace HO_7:=am (Kd.Zfj (ok:=(fun k_=>some k_ ≠ (qa:Value).ownBlock)) (Kd.Za HO_7.o pl) hg hat);replace HB:=am hb;clear qt ho hb hg hat;obtain ⟨qw,qy,jl⟩:=Kd.Zh qg.o;subst jl)|(refine gL (some 26) Tryz.func79 #[.slice qw qo.length qy] (h:=?_);(with_reducible refine (Zl.calls k1 (fun k_=>some k_=(.slice qw qo.length qy:Value).ownBlock) (.slice qw qo.length qy) qo qc w _ ?side1 ?side2 A11.o).mono ?_);(case side1=>exact pB);(case side2=>exact Kd.Zby rfl qg.o);rintro e w17 ⟨jd,rfl,ho0,hb,hkp⟩;refine ⟨_,rfl,?_⟩;have q8:=am (Kd.Zo (ok':=fun k_=>some k_ ≠ (qa:Value).ownBlock/\some k_ ≠ (.slice qp x7_1.length qq:Value).ownBlock) ho0 (fun k_ hk_=>⟨Or.elim hk_ (fun hs_=>fun e_=>(((HO_6.o).1 k_ e_.symm).2) hs_) (fun hn_=>(Kd.fresh' (Kd.R_lt (Kd.Za HO_6.o pl)) k_ hn_)),Or.elim hk_ (fun hs_=>fun e_=>(((HO_7.o).1 k_ e_.symm).2) hs_) (fun hn_=>(Kd.fresh' (Kd.R_lt (Kd.Za HO_7.o pl)) k_ hn_))⟩));replace HO_6:=am (Kd.Zo (ok':=fun k_=>some k_ ≠ (.slice qp x7_1.length qq:Value).ownBlock/\some k_ ≠ (jd:Value).ownBlock) (Kd.Zcc (HO_6.o) hkp (fun k_ hk_ hs_=>(hk_.2) hs_)) (fun k_ hk_=>⟨hk_.1.1,fun e_=>Or.elim (ho0.1 k_ e_.symm) (fun hs_=>hk_.2.1 hs_) (fun hn_=>Nat.not_le.2 hk_.2.2 hn_)⟩));replace HO_7:=am (Kd.Zo (ok':=fun k_=>some k_ ≠ (qa:Value).ownBlock/\some k_ ≠ (jd:Value).ownBlock) (Kd.Zcc (HO_7.o) hkp (fun k_ hk_ hs_=>(hk_.2) hs_)) (fun k_ hk_=>⟨hk_.1.1,fun e_=>Or.elim (ho0.1 k_ e_.symm) (fun hs_=>hk_.2.1 hs_) (fun hn_=>Nat.not_le.2 hk_.2.2 hn_)⟩));replace HB:=am hb;clear qg))
         go_loopg [7] k1 (fun kq v7 w' => ∃ (x6_2:List Int) (x7_2:List Int),Aside0 (Zu.l1 kq l0 l1 x6_2 x7_2 x8_1=some (r1,r2))/\Aside0 (kq<=k1)/\Aside0 (Kd.R (Kd.int .i64) 3 w' w.heap.size (fun k_=>some k_ ≠ (v7:Value).ownBlock) qa x6_2)/\Aside0 (Kd.R (Kd.int .i64) 3 w' w.heap.size (fun k_=>some k_ ≠ (qa:Value).ownBlock) v7 x7_2)/\Aside0 (Below w.heap.size w w'))
         case atStart=>exact ⟨(x6_1),(qc),H',⟨Nat.le_refl _⟩,⟨by refine rp ?_;exact Kd.Zo HO_6.o (fun _ hk=>hk.2)⟩,⟨by refine rp ?_;exact Kd.Zo q8.o (fun _ hk=>hk.1)⟩,⟨pB⟩⟩
         case round =>
          clear H'
          obtain ⟨x6_2,x7_2,HA,HK2,HO_6,HO_7,HB⟩:=hrel
          cases gk with
          | zero=>exact absurd HA.out (by simp [Zu.l1])
          | succ k2 =>
           have H:=HA.out
           clear HA
           simp only [Zu.l1] at H
           replace H:=ob H
           obtain ⟨qs,A18,H⟩:=H
           replace H:=hI H
           rcases H with ⟨c19b0,H⟩|⟨c19b0,H⟩
           ·replace H:=ob H
            obtain ⟨qn,A20,H⟩:=H
            replace H:=dI H
            rcases H with ⟨c21b0,H⟩|⟨_,H⟩
            ·replace H:=dI H
             rcases H with ⟨c22b0,H⟩|⟨_,H⟩
             ·obtain ⟨q5,qm⟩:∃ y_:List Int,y_=(x6_2.set (x8_1:Int).toNat (wrap64 ((rd x6_2 x8_1)+1))):=⟨_,rfl⟩
              replace H:(Zu.l1 k2 l0 l1 q5 qn x8_1)=some (r1,r2):=by have hy_:=qm;exact pH
              have ja:=am qm
              clear qm
              have H':=am H
              clear H
              obtain ⟨qe,qf,jm⟩:=Kd.Zh HO_7.o
              subst jm
              go_wp2_with (first|(refine gL (some 29) Tryz.func94 #[.slice qe x7_2.length qf,.slice A1 l1.length c1] (h:=?_);(with_reducible refine (Zal.calls k2 _ _ x7_2 _ _ l1 qs _ ?side1 ?side2 ?side3 ?side4 A18.o).mono ?_);(case side1=>exact Kd.Zi (Kd.Zc HO_7.o).2.2 pl);(case side2=>exact (Kd.Zc HO_7.o).2.1);(case side3=>exact cB HR1 HB);(case side4=>exact HC1.o);rintro e w' ⟨rfl,⟨nd,rfl⟩⟩;refine ⟨_,rfl,?_⟩;(try (rw [Zhy wr];generalize hq_:World.drewN wr _=wr;replace HO_6:Aside0 (Kd.R (Kd.int .i64) 3 wr w.heap.size (fun k_=>some k_ ≠ (.slice qe x7_2.length qf:Value).ownBlock) qa x6_2):=⟨by rw [<- hq_];exact (Kd.Za HO_6.o pl)⟩;replace HO_7:Aside0 (Kd.R (Kd.int .i64) 3 wr w.heap.size (fun k_=>some k_ ≠ (qa:Value).ownBlock) (.slice qe x7_2.length qf) x7_2):=⟨by rw [<- hq_];exact (Kd.Za HO_7.o pl)⟩;replace HB:Aside0 (Below w.heap.size w wr):=⟨by rw [<- hq_];exact pB⟩;clear hq_)))|(refine gL (some 33) Tryz.func134 #[.slice qe x7_2.length qf,.slice A1 l1.length c1] (h:=?_);(with_reducible refine (Zah.calls k2 _ _ x7_2 _ _ l1 qn _ ?side1 ?side2 ?side3 ?side4 A20.o).mono ?_);(case side1=>exact Kd.Zi (Kd.Zc HO_7.o).2.2 pl);(case side2=>exact (Kd.Zc HO_7.o).2.1);(case side3=>exact cB HR1 HB);(case side4=>exact HC1.o);rintro e w25 ⟨je,rfl,ho0,hb⟩;refine ⟨_,rfl,?_⟩;have qh:=am (Kd.Zn (Kd.Zf (Kd.Zf ho0 (Kd.R_lt (Kd.Za HO_6.o pl))) (Kd.R_lt (Kd.Za HO_7.o pl))) (Zb pB));replace HO_6:=reR HO_6 ho0 hb;replace HO_7:=reR HO_7 ho0 hb;replace HB:=bS hb;obtain ⟨ju,qi,jn⟩:=Kd.Zh HO_6.o;subst jn;have q1:0<=(x8_1:Int):=of_decide_eq_true pQ;have q3:x8_1 < (x6_2.length:Int):=of_decide_eq_true pQ;obtain ⟨jt,jj,qr⟩:=Kd.Zay (Kd.Zc HO_6.o).2.2 x8_1 q1 q3;cases jj;replace q1:=eq_true q1;replace q3:=eq_true q3;have p23:0<=(x8_1:Int):=of_decide_eq_true pQ;have q23:(x8_1:Int) < ((x6_2.length:Int):Int):=of_decide_eq_true pQ;obtain ⟨go23,jv,jb,jc,gl23,cl23,HG23⟩:=Kd.Zin HO_6.o (by omega);(first|cases jb|(injection jb with ea_ en_ ec_;(first|subst ea_|(injection ea_ with ea_;subst ea_));subst ec_;clear en_));have GB23:=am jc;have GG23:=am HG23;clear jc gl23 HG23;(first|simp only [add_plain] at qr|skip);obtain ⟨hx23_0,hf23_0⟩:=Kd.Zfk 0 HO_6.o (x8_1:Int) p23 q23;replace p23:=eq_true p23;replace q23:=eq_true q23;obtain ⟨hy27_,hz27_⟩:=Kd.Zfk 0 HO_6.o (x8_1:Int) (of_decide_eq_true pQ) (of_decide_eq_true pQ);have HP27:=Kd.Zjm HO_6.o (x8_1:Int) (wrap64 ((rd x6_2 x8_1)+1)))|((with_reducible refine Zel (t:=3) (p:=39) rfl ?_);refine Zd8 (t:=3) (p:=39) (v:=?vo_w28) (w1:=(w25.setCell ⟨go23,(x8_1:Int).toNat,none⟩ (.int .i64 (wrap64 ((rd x6_2 x8_1)+1))))) ?hg ?ho ?hn ?hr ?_;(case ho=>rfl);(case hg=>rfl);(case hn=>rfl);(case hr=>first|(go_simp;done)|(go_simp;rfl));intro w28 hw;have hg:w25.grownBy w28 (some go23):=(by rw [hw];exact HP27.2);have hp_:Kd.R (Kd.int .i64) 3 w28 w.heap.size (fun k_=>some k_ ≠ (.slice qe x7_2.length qf:Value).ownBlock/\some k_ ≠ (je:Value).ownBlock) (.slice (some ⟨go23,0,none⟩) x6_2.length qi) q5:=(by rw [hw,ja.out];exact HP27.1);clear HP27;replace HO_6:=am (hp_);replace HO_7:=am (Kd.Zfj (v:=(.slice (some ⟨go23,0,none⟩) x6_2.length qi)) (v1:=(.slice (some ⟨go23,0,none⟩) x6_2.length qi)) (ok:=(fun k_=>some k_ ≠ (je:Value).ownBlock)) (Kd.Za (Kd.Zo HO_7.o (fun _ hk=>⟨hk.2,hk.1⟩)) pl) hg (.inl rfl));replace qh:=am (Kd.Zfj (v:=(.slice (some ⟨go23,0,none⟩) x6_2.length qi)) (v1:=(.slice (some ⟨go23,0,none⟩) x6_2.length qi)) (ok:=(fun k_=>some k_ ≠ (.slice qe x7_2.length qf:Value).ownBlock)) (Kd.Za (Kd.Zo qh.o (fun _ hk=>⟨hk.2,hk.1.2⟩)) pl) hg (.inl rfl));replace HB:=am ((by rw [hw];exact Zdn (HB.o) GB23.out:Below w.heap.size w w28));clear hg hw hp_))
              go_roundg k2
              case measure=>exact pM
              case rel=>exact ⟨(q5),(qn),H',pJ,⟨by refine rp ?_;exact Kd.Zo HO_6.o (fun _ hk=>hk.2)⟩,⟨by refine rp ?_;exact Kd.Zo qh.o (fun _ hk=>hk.2)⟩,⟨pB⟩⟩
             ·cases H
            ·cases H
           ·have H':=am H
            clear H
            obtain ⟨jg,jh,jo⟩:=Kd.Zh HO_7.o
            subst jo
            go_wp2_with (first|(refine gL (some 29) Tryz.func94 #[.slice jg x7_2.length jh,.slice A1 l1.length c1] (h:=?_);(with_reducible refine (Zal.calls k2 _ _ x7_2 _ _ l1 qs _ ?side1 ?side2 ?side3 ?side4 A18.o).mono ?_);(case side1=>exact Kd.Zi (Kd.Zc HO_7.o).2.2 pl);(case side2=>exact (Kd.Zc HO_7.o).2.1);(case side3=>exact cB HR1 HB);(case side4=>exact HC1.o);rintro e w' ⟨rfl,⟨nd,rfl⟩⟩;refine ⟨_,rfl,?_⟩))
            go_roundg k2
            case measure=>exact pM
            case rel=>exact ⟨(x6_2),(x7_2),(wrap64 (x8_1 - 1)),pR,H',pJ,⟨by refine rp ?_;exact HO_6.o⟩,⟨by refine rp ?_;exact HO_7.o⟩,⟨pB⟩⟩
        ·rw [if_neg c10] at H
         cases H
       ·cases H
      ·cases H
     ·replace H:=ob H
      obtain ⟨q4,A30,H⟩:=H
      simp only [Option.some.injEq,Prod.mk.injEq] at H
      obtain ⟨rfl,rfl⟩:=H
      obtain ⟨qx,qz,jp⟩:=Kd.Zh HO_6.o
      subst jp
      go_wp2_with (first|(refine gL (some 41) Tryz.func79 #[.slice qx x6_1.length qz] (h:=?_);(with_reducible refine (Zl.calls k1 (fun k_=>some k_=(.slice qx x6_1.length qz:Value).ownBlock) (.slice qx x6_1.length qz) x6_1 q4 w _ ?side1 ?side2 A30.o).mono ?_);(case side1=>exact pB);(case side2=>exact Kd.Zby rfl HO_6.o);rintro e w32 ⟨jq,rfl,ho0,hb,hkp⟩;refine ⟨_,rfl,?_⟩;have q7:=am (Kd.Zo (ok':=fun k_=>some k_ ≠ (u7:Value).ownBlock) ho0 (fun k_ hk_=>Or.elim hk_ (fun hs_=>fun e_=>(((HO_7.o).1 k_ e_.symm)) hs_) (fun hn_=>(Kd.fresh' (Kd.R_lt (Kd.Za HO_7.o pl)) k_ hn_))));replace HO_7:=am (Kd.Zo (ok':=fun k_=>some k_ ≠ (jq:Value).ownBlock) (Kd.Zcc (HO_7.o) hkp (fun k_ hk_ hs_=>(hk_) hs_)) (fun k_ hk_=>fun e_=>Or.elim (ho0.1 k_ e_.symm) (fun hs_=>hk_.2.1 hs_) (fun hn_=>Nat.not_le.2 hk_.2.2 hn_)));replace HB:=am hb;clear HO_6))
      go_ret2
      exact ⟨_,_,pE,by refine rp ?_;exact q7.o,by refine rp ?_;exact HO_7.o,pB⟩
  ·cases H
 ·cases H
mutual
def Zd.l0:Nat->List Int->List Int->List Int->Int->Option (List Int)
 | 0,_,_,_,_=>none
 | k+1,x0,x3,x4,x5=>if x5 >= 0 then (Zd.j1 k x0 x3 x4 x5 (decide ((x0.length:Int) > 0))) else (Zd.j1 k x0 x3 x4 x5 false)
def Zd.j1:Nat->List Int->List Int->List Int->Int->Bool->Option (List Int)
 | 0,_,_,_,_,_=>none
 | k+1,x0,x3,x4,x5,x19=>if x19=true then (if (wrap64 ((wrap64 (2*x5))+1)) < (x0.length:Int) then (if 0<=(wrap64 ((wrap64 (2*x5))+1)) then (Zd.j2 k x0 x3 x4 x5 (rd x0 (wrap64 ((wrap64 (2*x5))+1)))) else (none)) else (Zd.j2 k x0 x3 x4 x5 0)) else (some x3)
def Zd.j2:Nat->List Int->List Int->List Int->Int->Int->Option (List Int)
 | 0,_,_,_,_,_=>none
 | k+1,x0,x3,x4,x5,x6=>if 0<=(wrap64 (2*x5)) then (if (wrap64 (2*x5)) < (x0.length:Int) then ((some (([rd x0 (wrap64 (2*x5)),x6]:List Int):List Int)).bind fun qa=>(if qa.length+x4.length < 17592186044416 then ((Zl.f k (qa++x4)).bind fun qd=>((Zv.f k x3 20 1).bind fun qe=>(Zd.l1 k x0 x3 qd x5 qe 0))) else (none))) else (none)) else (none)
def Zd.l1:Nat->List Int->List Int->List Int->Int->List Int->Int->Option (List Int)
 | 0,_,_,_,_,_,_=>none
 | k+1,x0,x3,x4,x5,x7,x8=>(Zal.f k x4 x7).bind fun qz=>(if qz >= 0 then ((Zah.f k x4 x7).bind fun q0=>((Zv.f k x7 1 2).bind fun q1=>(Zd.l1 k x0 x3 q0 x5 q1 (wrap64 (x8+1))))) else ((some (([x8]:List Int):List Int)).bind fun qi=>(if qi.length+x3.length < 17592186044416 then ((Zl.f k (qi++x3)).bind fun qh=>(Zd.l0 k x0 qh x4 (wrap64 (x5 - 1)))) else (none))))
end
def Zd.f (k:Nat) (l0:List Int):Option (List Int):=Zd.l0 k l0 ([]:List Int) ([]:List Int) (wrap64 (Int.tdiv (wrap64 ((l0.length:Int) - 1)) 2))
theorem Zd.calls (k:Nat) (A0:Option Addr) (c0:Nat) (l0:List Int) (r:List Int) (w:World) (hr0:Kd.C (Kd.int .i64) w A0 l0.length l0) (hc0:l0.length<=c0) (h:Zd.f k l0=some r) :
  Calls Tryz.prog 97 #[.slice A0 l0.length c0] w fun e w' => ∃ v0_:Value,e=.returned (v0_)/\Kd.R (Kd.int .i64) 3 w' w.heap.size (fun _=>True) v0_ r/\Below w.heap.size w w':=by
 have HR0:=am hr0
 have HC0:=am hc0
 clear hr0 hc0
 have HB:=am (Below.refl w.heap.size w)
 have H:(Zd.l0 k l0 ([]:List Int) ([]:List Int) (wrap64 (Int.tdiv (wrap64 ((l0.length:Int) - 1)) 2)))=some r:=h
 clear h
 have H':=am H
 clear H
 go_enter Tryz.func97,Tryz.ntmps97
 go_wp2
 go_loopg [3,4,5] k (fun kq v3 v4 v5 w' => ∃ (x3_1:List Int) (x4_1:List Int) (x5_1:Int),v5=.int .i64 x5_1/\Aside0 (Zd.l0 kq l0 x3_1 x4_1 x5_1=some r)/\Aside0 (kq<=k)/\Aside0 (Kd.R (Kd.int .i64) 3 w' w.heap.size (fun k_=>some k_ ≠ (v4:Value).ownBlock) v3 x3_1)/\Aside0 (Kd.R (Kd.int .i64) 3 w' w.heap.size (fun k_=>some k_ ≠ (v3:Value).ownBlock) v4 x4_1)/\Aside0 (Below w.heap.size w w'))
 case atStart=>exact ⟨(([]:List Int)),(([]:List Int)),(wrap64 (Int.tdiv (wrap64 ((l0.length:Int) - 1)) 2)),pR,H',⟨Nat.le_refl _⟩,⟨pN⟩,⟨pN⟩,⟨pB⟩⟩
 case round =>
  clear H'
  obtain ⟨x3_1,x4_1,x5_1,rfl,HA,HK1,HO_3,HO_4,HB⟩:=hrel
  cases gk with
  | zero=>exact absurd HA.out (by simp [Zd.l0])
  | succ k1 =>
   have H:=HA.out
   clear HA
   simp only [Zd.l0] at H
   have HC2:=am H
   clear H
   go_upto_region 3 with (fail)
   go_cut [19] (fun v19 wc => ∃ (kq:Nat) (x19_1:Bool),v19=.bool x19_1/\Aside0 (Zd.j1 kq l0 x3_1 x4_1 x5_1 x19_1=some r)/\Aside0 (kq<=k1)/\Aside0 (Kd.R (Kd.int .i64) 3 wc w.heap.size (fun k_=>some k_ ≠ (u4:Value).ownBlock) u3 x3_1)/\Aside0 (Kd.R (Kd.int .i64) 3 wc w.heap.size (fun k_=>some k_ ≠ (u3:Value).ownBlock) u4 x4_1)/\Aside0 (Below w.heap.size w wc))
   case first =>
    have H:=HC2.o
    clear HC2
    replace H:=hI H
    rcases H with ⟨c3b0,H⟩|⟨c3b0,H⟩
    ·(first|rw [c3b0]|(simp only [Zb9,Zdj];rw [c3b0])|skip)
     have H':=am H
     clear H
     go_wp2
     go_meet
     case rel=>exact ⟨_,(decide ((l0.length:Int) > 0)),pR,H',pJ,⟨by refine rp ?_;exact HO_3.o⟩,⟨by refine rp ?_;exact HO_4.o⟩,⟨pB⟩⟩
    ·(first|rw [c3b0]|(simp only [Zb9,Zdj];rw [c3b0])|skip)
     have H':=am H
     clear H
     go_wp2
     go_meet
     case rel=>exact ⟨_,(false),pR,H',pJ,⟨by refine rp ?_;exact HO_3.o⟩,⟨by refine rp ?_;exact HO_4.o⟩,⟨pB⟩⟩
   case rest =>
    clear HC2
    obtain ⟨kq,x19_1,rfl,HA,HJ1,HO_3,HO_4,HB⟩:=hcut
    cases kq with
    | zero=>exact absurd HA.out (by simp [Zd.j1])
    | succ kj1 =>
     have H:=HA.out
     clear HA
     simp only [Zd.j1] at H
     replace H:=tI (t:=x19_1) H
     rcases H with ⟨rfl,H⟩|⟨rfl,H⟩
     ·have HC5:=am H
      clear H
      go_upto_if 27 with (fail)
      go_cut [6] (fun v6 wc => ∃ (kq:Nat) (x6_4:Int),v6=.int .i64 x6_4/\Aside0 (Zd.j2 kq l0 x3_1 x4_1 x5_1 x6_4=some r)/\Aside0 (kq<=kj1)/\Aside0 (Kd.R (Kd.int .i64) 3 wc w.heap.size (fun k_=>some k_ ≠ (u4:Value).ownBlock) u3 x3_1)/\Aside0 (Kd.R (Kd.int .i64) 3 wc w.heap.size (fun k_=>some k_ ≠ (u3:Value).ownBlock) u4 x4_1)/\Aside0 (Below w.heap.size w wc))
      case first =>
       have H:=HC5.o
       clear HC5
       replace H:=dI H
       rcases H with ⟨c6b0,H⟩|⟨c6b0,H⟩
       ·(first|rw [c6b0]|(simp only [Zb9,Zdj];rw [c6b0])|skip)
        obtain ⟨ji7,hji7⟩:∃ j_:Int,(wrap64 ((wrap64 (2*x5_1))+1))=j_:=⟨_,rfl⟩
        replace H:(if 0<=(ji7) then (Zd.j2 kj1 l0 x3_1 x4_1 x5_1 (rd l0 (ji7))) else (none))=some r:=by first|(rw [hji7] at H;exact H)|(simp only [hji7] at H ⊢;exact H)
        (try rw [hji7] at c6b0)
        have hji7w:(IntKind.i64.wrap ((wrap64 (2*x5_1))+1))=ji7:=(Zb9 _).trans hji7
        replace H:=dI H
        rcases H with ⟨c8b0,H⟩|⟨_,H⟩
        ·have H':=am H
         clear H
         have jc:0<=((ji7):Int):=of_decide_eq_true pQ
         have je:(ji7) < (l0.length:Int):=of_decide_eq_true pQ
         obtain ⟨j3,jp,qf⟩:=Kd.Zay HR0.o (ji7) jc je
         cases jp
         replace qf:=(HB.o.cell (World.block_lt_of_cell? w _ qf)).trans qf
         replace jc:=eq_true jc
         replace je:=eq_true je
         go_wp2
         go_meet
         case rel=>exact ⟨_,(rd l0 (ji7)),(by first|rfl|(simp;done)|(simp only [<- hji7] <;> (first|rfl|simp))|(simp [*];done)),(by first|exact H'|(have H_:=H'.out;simp only [<- hji7] at H_;exact ⟨H_⟩)|(refine ⟨?_⟩;have H_:=H'.out;simp only [<- hji7] at H_ ⊢;exact H_)),pJ,⟨by refine rp ?_;exact HO_3.o⟩,⟨by refine rp ?_;exact HO_4.o⟩,⟨pB⟩⟩
        ·cases H
       ·(first|rw [c6b0]|(simp only [Zb9,Zdj];rw [c6b0])|skip)
        have H':=am H
        clear H
        go_wp2
        go_meet
        case rel=>exact ⟨_,(0),pR,H',pJ,⟨by refine rp ?_;exact HO_3.o⟩,⟨by refine rp ?_;exact HO_4.o⟩,⟨pB⟩⟩
      case rest =>
       clear HC5
       obtain ⟨kq,x6_4,rfl,HA,HJ4,HO_3,HO_4,HB⟩:=hcut
       cases kq with
       | zero=>exact absurd HA.out (by simp [Zd.j2])
       | succ kj4 =>
        have H:=HA.out
        clear HA
        simp only [Zd.j2] at H
        obtain ⟨ji9,hji9⟩:∃ j_:Int,(wrap64 (2*x5_1))=j_:=⟨_,rfl⟩
        replace H:(if 0<=(ji9) then (if (ji9) < (l0.length:Int) then ((some (([rd l0 (ji9),x6_4]:List Int):List Int)).bind fun qa=>(if qa.length+x4_1.length < 17592186044416 then ((Zl.f kj4 (qa++x4_1)).bind fun qd=>((Zv.f kj4 x3_1 20 1).bind fun qe=>(Zd.l1 kj4 l0 x3_1 qd x5_1 qe 0))) else (none))) else (none)) else (none))=some r:=by first|(rw [hji9] at H;exact H)|(simp only [hji9] at H ⊢;exact H)
        have hji9w:(IntKind.i64.wrap (2*x5_1))=ji9:=(Zb9 _).trans hji9
        replace H:=dI H
        rcases H with ⟨c10b0,H⟩|⟨_,H⟩
        ·replace H:=dI H
         rcases H with ⟨c11b0,H⟩|⟨_,H⟩
         ·obtain ⟨qa,qr⟩:∃ y_:List Int,y_=(([rd l0 (ji9),x6_4]:List Int)):=⟨_,rfl⟩
          replace H:(if qa.length+x4_1.length < 17592186044416 then ((Zl.f kj4 (qa++x4_1)).bind fun qd=>((Zv.f kj4 x3_1 20 1).bind fun qe=>(Zd.l1 kj4 l0 x3_1 qd x5_1 qe 0))) else (none))=some r:=by have hy_:=qr;exact pH
          have q4:=am qr
          clear qr
          by_cases c12:qa.length+x4_1.length < 17592186044416
          ·rw [if_pos c12] at H
           have LMc12:=am c12
           clear c12
           obtain ⟨qv,qs⟩:∃ y_:List Int,y_=(qa++x4_1):=⟨_,rfl⟩
           replace H:((Zl.f kj4 qv).bind fun qd=>((Zv.f kj4 x3_1 20 1).bind fun qe=>(Zd.l1 kj4 l0 x3_1 qd x5_1 qe 0)))=some r:=by have hy_:=qs;exact pH
           have jl:=am qs
           clear qs
           replace H:=ob H
           obtain ⟨qd,A13,H⟩:=H
           replace H:=ob H
           obtain ⟨qe,A14,H⟩:=H
           have H':=am H
           clear H
           have jd:0<=((ji9):Int):=of_decide_eq_true pQ
           have jf:(ji9) < (l0.length:Int):=of_decide_eq_true pQ
           obtain ⟨j4,jq,qg⟩:=Kd.Zay HR0.o (ji9) jd jf
           cases jq
           replace qg:=(HB.o.cell (World.block_lt_of_cell? w _ qg)).trans qg
           replace jd:=eq_true jd
           replace jf:=eq_true jf
           go_wp2_with (first|((with_reducible refine gd 40 ?_);(try (refine Za1 (by rfl) ?_;dsimp only));refine Kd.Zhs (Kd.int .i64) _ 3 ?hg (N:=40) ?hd (xs:=([rd l0 (ji9),x6_4]:List Int)) (inner:=[.int .i64 (rd l0 (ji9)),.int .i64 x6_4]) (ok:=fun _=>True) (okp:=fun _=>True) ?hr ?hp (fun _ hk=>hk) trivial (Below.refl _ _) (Nat.le_refl _) (by simp) ?_;(case hd=>rfl);(case hg=>rfl);(case hr=>first|(go_simp;done)|(go_simp;rfl));(case hp=>exact (Reps.one (show Kd.M (Kd.int .i64) _ _ _ (rd l0 (ji9)) [.int .i64 (rd l0 (ji9))] from rfl) (Reps.one (show Kd.M (Kd.int .i64) _ _ _ x6_4 [.int .i64 x6_4] from rfl) (Reps.none _ _))));intro jz w15 ho16 hb hg_ hnew_;clear hg_ hnew_;(first|rw [<- q4.out] at ho16|(simp only [Int.reduceToNat] at ho16;rw [<- q4.out] at ho16));have q2:=am (Kd.Zn (Kd.Zf (Kd.Zf ho16 (Kd.R_lt (Kd.Za HO_3.o pl))) (Kd.R_lt (Kd.Za HO_4.o pl))) (Zb pB));replace HO_3:=reR HO_3 ho16 hb;replace HO_4:=reR HO_4 ho16 hb;replace HB:=bS hb;clear hb ho16;obtain ⟨qx,qy,jr⟩:=Kd.Zh HO_4.o;subst jr)|((with_reducible refine Zar (b:=.append) (xs:=#[.tmp 40,.tmp 41]) rfl ?_);(try (refine Za1 (by rfl) ?_;dsimp only));at_builtin;refine Kd.Zdx (Kd.int .i64) (w0:=w) w.heap.size rfl (.tmp 40) (.tmp 41) 28 3 (.int .i64 0) 8 rfl Tryz.underlying28 info3 rfl (by decide) (by omega) jz qa x4_1 _ _ _ (fun k_=>some k_ ≠ (u3:Value).ownBlock/\some k_ ≠ (.slice qx x4_1.length qy:Value).ownBlock) (fun _=>False) rfl rfl ?aO ?aR (fun _ _ h=>h) (fun _ h=>h.elim) ?aF ?aB ?aS ?aL ?_;(case aR=>exact Kd.Zi (Kd.Zc HO_4.o).2.2 pl);(case aB=>exact pB);(case aF=>exact (fun k_ hk=>⟨Kd.fresh' (Kd.R_lt (Kd.Za HO_3.o pl)) k_ hk,Kd.fresh' (Kd.R_lt (Kd.Za HO_4.o pl)) k_ hk⟩));(case aO=>exact (Kd.Za (Kd.Zo q2.o (fun _ hk=>⟨hk.1.2,hk.2⟩)) pl));(case aS=>exact (Zb pB));(case aL=>have := LMc12.o;omega);intro j5 w17 ho hb hg hat;rw [<- jl.out] at ho;have qp:=am ho;replace HO_3:=am (Kd.Zfj (ok:=(fun k_=>some k_ ≠ (.slice qx x4_1.length qy:Value).ownBlock)) (Kd.Za HO_3.o pl) hg hat);replace HO_4:=am (Kd.Zfj (ok:=(fun k_=>some k_ ≠ (u3:Value).ownBlock)) (Kd.Za HO_4.o pl) hg hat);replace HB:=am hb;clear q2 ho hb hg hat;obtain ⟨q6,q9,js⟩:=Kd.Zh qp.o;subst js)|(refine gL (some 43) Tryz.func79 #[.slice q6 qv.length q9] (h:=?_);(with_reducible refine (Zl.calls kj4 (fun k_=>some k_=(.slice q6 qv.length q9:Value).ownBlock) (.slice q6 qv.length q9) qv qd w _ ?side1 ?side2 A13.o).mono ?_);(case side1=>exact pB);(case side2=>exact Kd.Zby rfl qp.o);rintro e w20 ⟨jo,rfl,ho0,hb,hkp⟩;refine ⟨_,rfl,?_⟩;have qn:=am (Kd.Zo (ok':=fun k_=>some k_ ≠ (u3:Value).ownBlock/\some k_ ≠ (.slice qx x4_1.length qy:Value).ownBlock) ho0 (fun k_ hk_=>⟨Or.elim hk_ (fun hs_=>fun e_=>(((HO_3.o).1 k_ e_.symm).2) hs_) (fun hn_=>(Kd.fresh' (Kd.R_lt (Kd.Za HO_3.o pl)) k_ hn_)),Or.elim hk_ (fun hs_=>fun e_=>(((HO_4.o).1 k_ e_.symm).2) hs_) (fun hn_=>(Kd.fresh' (Kd.R_lt (Kd.Za HO_4.o pl)) k_ hn_))⟩));replace HO_3:=am (Kd.Zo (ok':=fun k_=>some k_ ≠ (.slice qx x4_1.length qy:Value).ownBlock/\some k_ ≠ (jo:Value).ownBlock) (Kd.Zcc (HO_3.o) hkp (fun k_ hk_ hs_=>(hk_.2) hs_)) (fun k_ hk_=>⟨hk_.1.1,fun e_=>Or.elim (ho0.1 k_ e_.symm) (fun hs_=>hk_.2.1 hs_) (fun hn_=>Nat.not_le.2 hk_.2.2 hn_)⟩));replace HO_4:=am (Kd.Zo (ok':=fun k_=>some k_ ≠ (u3:Value).ownBlock/\some k_ ≠ (jo:Value).ownBlock) (Kd.Zcc (HO_4.o) hkp (fun k_ hk_ hs_=>(hk_.2) hs_)) (fun k_ hk_=>⟨hk_.1.1,fun e_=>Or.elim (ho0.1 k_ e_.symm) (fun hs_=>hk_.2.1 hs_) (fun hn_=>Nat.not_le.2 hk_.2.2 hn_)⟩));replace HB:=am hb;clear qp;obtain ⟨qb,qc,jt⟩:=Kd.Zh HO_3.o;subst jt)|(refine gL (some 45) Tryz.func122 #[.slice qb x3_1.length qc,.int .i64 20,.int .i64 1] (h:=?_);(with_reducible refine (Zv.calls kj4 _ _ x3_1 20 1 qe _ ?side1 ?side2 A14.o).mono ?_);(case side1=>exact Kd.Zi (Kd.Zc HO_3.o).2.2 pl);(case side2=>exact (Kd.Zc HO_3.o).2.1);rintro e w22 ⟨j6,rfl,ho0,hb⟩;refine ⟨_,rfl,?_⟩;have ji:=am (Kd.Zn (Kd.Zf (Kd.Zf (Kd.Zf ho0 (Kd.R_lt (Kd.Za HO_3.o pl))) (Kd.R_lt (Kd.Za HO_4.o pl))) (Kd.R_lt (Kd.Za qn.o pl))) (Zb pB));replace HO_3:=reR HO_3 ho0 hb;replace HO_4:=reR HO_4 ho0 hb;replace qn:=reR qn ho0 hb;replace HB:=bS hb))
           go_loopg [4,7,8] kj4 (fun kq v4 v7 v8 w' => ∃ (x4_4:List Int) (x7_4:List Int) (x8_4:Int),v8=.int .i64 x8_4/\Aside0 (Zd.l1 kq l0 x3_1 x4_4 x5_1 x7_4 x8_4=some r)/\Aside0 (kq<=kj4)/\Aside0 (Kd.R (Kd.int .i64) 3 w' w.heap.size (fun k_=>some k_ ≠ (v4:Value).ownBlock/\some k_ ≠ (v7:Value).ownBlock) (.slice qb x3_1.length qc) x3_1)/\Aside0 (Kd.R (Kd.int .i64) 3 w' w.heap.size (fun k_=>some k_ ≠ ((.slice qb x3_1.length qc):Value).ownBlock/\some k_ ≠ (v7:Value).ownBlock) v4 x4_4)/\Aside0 (Kd.R (Kd.int .i64) 3 w' w.heap.size (fun k_=>some k_ ≠ ((.slice qb x3_1.length qc):Value).ownBlock/\some k_ ≠ (v4:Value).ownBlock) v7 x7_4)/\Aside0 (Below w.heap.size w w'))
           case atStart=>exact ⟨(qd),(qe),(0),pR,H',⟨Nat.le_refl _⟩,⟨by refine rp ?_;exact Kd.Zo HO_3.o (fun _ hk=>⟨hk.1.2,hk.2⟩)⟩,⟨by refine rp ?_;exact Kd.Zo qn.o (fun _ hk=>⟨hk.1.1,hk.2⟩)⟩,⟨by refine rp ?_;exact Kd.Zo ji.o (fun _ hk=>⟨hk.1.1.2,hk.2⟩)⟩,⟨pB⟩⟩
           case round =>
            clear H'
            obtain ⟨x4_4,x7_4,x8_4,rfl,HA,HK4,HO_3,HO_4,HO_7,HB⟩:=hrel
            cases gk with
            | zero=>exact absurd HA.out (by simp [Zd.l1])
            | succ k4 =>
             have H:=HA.out
             clear HA
             simp only [Zd.l1] at H
             replace H:=ob H
             obtain ⟨qz,A23,H⟩:=H
             replace H:=hI H
             rcases H with ⟨c24b0,H⟩|⟨c24b0,H⟩
             ·replace H:=ob H
              obtain ⟨q0,A25,H⟩:=H
              replace H:=ob H
              obtain ⟨q1,A26,H⟩:=H
              have H':=am H
              clear H
              obtain ⟨jh,jn,ju⟩:=Kd.Zh HO_4.o
              subst ju
              obtain ⟨q7,ja,jv⟩:=Kd.Zh HO_7.o
              subst jv
              go_wp2_with (first|(refine gL (some 48) Tryz.func94 #[.slice jh x4_4.length jn,.slice q7 x7_4.length ja] (h:=?_);(with_reducible refine (Zal.calls k4 _ _ x4_4 _ _ x7_4 qz _ ?side1 ?side2 ?side3 ?side4 A23.o).mono ?_);(case side1=>exact Kd.Zi (Kd.Zc HO_4.o).2.2 pl);(case side2=>exact (Kd.Zc HO_4.o).2.1);(case side3=>exact Kd.Zi (Kd.Zc HO_7.o).2.2 pl);(case side4=>exact (Kd.Zc HO_7.o).2.1);rintro e w' ⟨rfl,⟨nd,rfl⟩⟩;refine ⟨_,rfl,?_⟩)|(refine gL (some 52) Tryz.func134 #[.slice jh x4_4.length jn,.slice q7 x7_4.length ja] (h:=?_);(with_reducible refine (Zah.calls k4 _ _ x4_4 _ _ x7_4 q0 _ ?side1 ?side2 ?side3 ?side4 A25.o).mono ?_);(case side1=>exact Kd.Zi (Kd.Zc HO_4.o).2.2 pl);(case side2=>exact (Kd.Zc HO_4.o).2.1);(case side3=>exact Kd.Zi (Kd.Zc HO_7.o).2.2 pl);(case side4=>exact (Kd.Zc HO_7.o).2.1);rintro e w29 ⟨j7,rfl,ho0,hb⟩;refine ⟨_,rfl,?_⟩;have qo:=am (Kd.Zn (Kd.Zf (Kd.Zf (Kd.Zf ho0 (Kd.R_lt (Kd.Za HO_3.o pl))) (Kd.R_lt (Kd.Za HO_4.o pl))) (Kd.R_lt (Kd.Za HO_7.o pl))) (Zb pB));replace HO_3:=reR HO_3 ho0 hb;replace HO_4:=reR HO_4 ho0 hb;replace HO_7:=reR HO_7 ho0 hb;replace HB:=bS hb)|(refine gL (some 54) Tryz.func122 #[.slice q7 x7_4.length ja,.int .i64 1,.int .i64 2] (h:=?_);(with_reducible refine (Zv.calls k4 _ _ x7_4 1 2 q1 _ ?side1 ?side2 A26.o).mono ?_);(case side1=>exact Kd.Zi (Kd.Zc HO_7.o).2.2 pl);(case side2=>exact (Kd.Zc HO_7.o).2.1);rintro e w30 ⟨j8,rfl,ho0,hb⟩;refine ⟨_,rfl,?_⟩;have jj:=am (Kd.Zn (Kd.Zf (Kd.Zf (Kd.Zf (Kd.Zf ho0 (Kd.R_lt (Kd.Za HO_3.o pl))) (Kd.R_lt (Kd.Za HO_4.o pl))) (Kd.R_lt (Kd.Za HO_7.o pl))) (Kd.R_lt (Kd.Za qo.o pl))) (Zb pB));replace HO_3:=reR HO_3 ho0 hb;replace HO_4:=reR HO_4 ho0 hb;replace HO_7:=reR HO_7 ho0 hb;replace qo:=reR qo ho0 hb;replace HB:=bS hb))
              go_roundg k4
              case measure=>exact pM
              case rel=>exact ⟨(q0),(q1),(wrap64 (x8_4+1)),pR,(by first|exact H'|(have H_:=H'.out;simp only [<- hji9] at H_;exact ⟨H_⟩)|(refine ⟨?_⟩;have H_:=H'.out;simp only [<- hji9] at H_ ⊢;exact H_)),pJ,⟨by refine rp ?_;exact Kd.Zo HO_3.o (fun _ hk=>⟨hk.1.2,hk.2⟩)⟩,⟨by refine rp ?_;exact Kd.Zo qo.o (fun _ hk=>⟨hk.1.1.1.2,hk.2⟩)⟩,⟨by refine rp ?_;exact Kd.Zo jj.o (fun _ hk=>⟨hk.1.1.1.2,hk.2⟩)⟩,⟨pB⟩⟩
             ·obtain ⟨qi,qt⟩:∃ y_:List Int,y_=(([x8_4]:List Int)):=⟨_,rfl⟩
              replace H:(if qi.length+x3_1.length < 17592186044416 then ((Zl.f k4 (qi++x3_1)).bind fun qh=>(Zd.l0 k4 l0 qh x4_4 (wrap64 (x5_1 - 1)))) else (none))=some r:=by have hy_:=qt;exact pH
              have q5:=am qt
              clear qt
              by_cases c31:qi.length+x3_1.length < 17592186044416
              ·rw [if_pos c31] at H
               have LMc31:=am c31
               clear c31
               obtain ⟨qw,qu⟩:∃ y_:List Int,y_=(qi++x3_1):=⟨_,rfl⟩
               replace H:((Zl.f k4 qw).bind fun qh=>(Zd.l0 k4 l0 qh x4_4 (wrap64 (x5_1 - 1))))=some r:=by have hy_:=qu;exact pH
               have jm:=am qu
               clear qu
               replace H:=ob H
               obtain ⟨qh,A32,H⟩:=H
               have H':=am H
               clear H
               obtain ⟨qj,ql,jw⟩:=Kd.Zh HO_4.o
               subst jw
               obtain ⟨qk,qm,jx⟩:=Kd.Zh HO_7.o
               subst jx
               go_wp2_with (first|(refine gL (some 48) Tryz.func94 #[.slice qj x4_4.length ql,.slice qk x7_4.length qm] (h:=?_);(with_reducible refine (Zal.calls k4 _ _ x4_4 _ _ x7_4 qz _ ?side1 ?side2 ?side3 ?side4 A23.o).mono ?_);(case side1=>exact Kd.Zi (Kd.Zc HO_4.o).2.2 pl);(case side2=>exact (Kd.Zc HO_4.o).2.1);(case side3=>exact Kd.Zi (Kd.Zc HO_7.o).2.2 pl);(case side4=>exact (Kd.Zc HO_7.o).2.1);rintro e w' ⟨rfl,⟨nd,rfl⟩⟩;refine ⟨_,rfl,?_⟩)|((with_reducible refine gd 58 ?_);(try (refine Za1 (by rfl) ?_;dsimp only));refine Kd.Zhs (Kd.int .i64) _ 3 ?hg (N:=58) ?hd (xs:=([x8_4]:List Int)) (inner:=[.int .i64 x8_4]) (ok:=fun _=>True) (okp:=fun _=>True) ?hr ?hp (fun _ hk=>hk) trivial (Below.refl _ _) (Nat.le_refl _) (by simp) ?_;(case hd=>rfl);(case hg=>rfl);(case hr=>first|(go_simp;done)|(go_simp;rfl));(case hp=>exact (Reps.one (show Kd.M (Kd.int .i64) _ _ _ x8_4 [.int .i64 x8_4] from rfl) (Reps.none _ _)));intro j0 w35 ho36 hb hg_ hnew_;clear hg_ hnew_;(first|rw [<- q5.out] at ho36|(simp only [Int.reduceToNat] at ho36;rw [<- q5.out] at ho36));have q3:=am (Kd.Zn (Kd.Zf (Kd.Zf (Kd.Zf ho36 (Kd.R_lt (Kd.Za HO_3.o pl))) (Kd.R_lt (Kd.Za HO_4.o pl))) (Kd.R_lt (Kd.Za HO_7.o pl))) (Zb pB));replace HO_3:=reR HO_3 ho36 hb;replace HO_4:=reR HO_4 ho36 hb;replace HO_7:=reR HO_7 ho36 hb;replace HB:=bS hb;clear hb ho36)|((with_reducible refine Zar (b:=.append) (xs:=#[.tmp 58,.tmp 59]) rfl ?_);(try (refine Za1 (by rfl) ?_;dsimp only));at_builtin;refine Kd.Zdx (Kd.int .i64) (w0:=w) w.heap.size rfl (.tmp 58) (.tmp 59) 28 3 (.int .i64 0) 8 rfl Tryz.underlying28 info3 rfl (by decide) (by omega) j0 qi x3_1 _ _ _ (fun k_=>some k_ ≠ (.slice qb x3_1.length qc:Value).ownBlock/\some k_ ≠ (.slice qj x4_4.length ql:Value).ownBlock/\some k_ ≠ (.slice qk x7_4.length qm:Value).ownBlock) (fun _=>False) rfl rfl ?aO ?aR (fun _ _ h=>h) (fun _ h=>h.elim) ?aF ?aB ?aS ?aL ?_;(case aR=>exact Kd.Zi (Kd.Zc HO_3.o).2.2 pl);(case aB=>exact pB);(case aF=>exact (fun k_ hk=>⟨Kd.fresh' (Kd.R_lt (Kd.Za HO_3.o pl)) k_ hk,Kd.fresh' (Kd.R_lt (Kd.Za HO_4.o pl)) k_ hk,Kd.fresh' (Kd.R_lt (Kd.Za HO_7.o pl)) k_ hk⟩));(case aO=>exact (Kd.Za (Kd.Zo q3.o (fun _ hk=>⟨hk.1.1.2,⟨hk.1.2,hk.2⟩⟩)) pl));(case aS=>exact (Zb pB));(case aL=>have := LMc31.o;omega);intro j9 w37 ho hb hg hat;rw [<- jm.out] at ho;have qq:=am ho;replace HO_3:=am (Kd.Zfj (ok:=(fun k_=>some k_ ≠ (.slice qj x4_4.length ql:Value).ownBlock/\some k_ ≠ (.slice qk x7_4.length qm:Value).ownBlock)) (Kd.Za HO_3.o pl) hg hat);replace HO_4:=am (Kd.Zfj (ok:=(fun k_=>some k_ ≠ (.slice qb x3_1.length qc:Value).ownBlock/\some k_ ≠ (.slice qk x7_4.length qm:Value).ownBlock)) (Kd.Za HO_4.o pl) hg hat);replace HO_7:=am (Kd.Zfj (ok:=(fun k_=>some k_ ≠ (.slice qb x3_1.length qc:Value).ownBlock/\some k_ ≠ (.slice qj x4_4.length ql:Value).ownBlock)) (Kd.Za HO_7.o pl) hg hat);replace HB:=am hb;clear q3 ho hb hg hat;obtain ⟨q8,jb,jy⟩:=Kd.Zh qq.o;subst jy)|(refine gL (some 61) Tryz.func79 #[.slice q8 qw.length jb] (h:=?_);(with_reducible refine (Zl.calls k4 (fun k_=>some k_=(.slice q8 qw.length jb:Value).ownBlock) (.slice q8 qw.length jb) qw qh w _ ?side1 ?side2 A32.o).mono ?_);(case side1=>exact pB);(case side2=>exact Kd.Zby rfl qq.o);rintro e w39 ⟨jg,rfl,ho0,hb,hkp⟩;refine ⟨_,rfl,?_⟩;have jk:=am (Kd.Zo (ok':=fun k_=>some k_ ≠ (.slice qb x3_1.length qc:Value).ownBlock/\some k_ ≠ (.slice qj x4_4.length ql:Value).ownBlock/\some k_ ≠ (.slice qk x7_4.length qm:Value).ownBlock) ho0 (fun k_ hk_=>⟨Or.elim hk_ (fun hs_=>fun e_=>(((HO_3.o).1 k_ e_.symm).2) hs_) (fun hn_=>(Kd.fresh' (Kd.R_lt (Kd.Za HO_3.o pl)) k_ hn_)),Or.elim hk_ (fun hs_=>fun e_=>(((HO_4.o).1 k_ e_.symm).2) hs_) (fun hn_=>(Kd.fresh' (Kd.R_lt (Kd.Za HO_4.o pl)) k_ hn_)),Or.elim hk_ (fun hs_=>fun e_=>(((HO_7.o).1 k_ e_.symm).2) hs_) (fun hn_=>(Kd.fresh' (Kd.R_lt (Kd.Za HO_7.o pl)) k_ hn_))⟩));replace HO_3:=am (Kd.Zo (ok':=fun k_=>some k_ ≠ (.slice qj x4_4.length ql:Value).ownBlock/\some k_ ≠ (.slice qk x7_4.length qm:Value).ownBlock/\some k_ ≠ (jg:Value).ownBlock) (Kd.Zcc (HO_3.o) hkp (fun k_ hk_ hs_=>(hk_.2) hs_)) (fun k_ hk_=>⟨hk_.1.1.1,hk_.1.1.2,fun e_=>Or.elim (ho0.1 k_ e_.symm) (fun hs_=>hk_.2.1 hs_) (fun hn_=>Nat.not_le.2 hk_.2.2 hn_)⟩));replace HO_4:=am (Kd.Zo (ok':=fun k_=>some k_ ≠ (.slice qb x3_1.length qc:Value).ownBlock/\some k_ ≠ (.slice qk x7_4.length qm:Value).ownBlock/\some k_ ≠ (jg:Value).ownBlock) (Kd.Zcc (HO_4.o) hkp (fun k_ hk_ hs_=>(hk_.2) hs_)) (fun k_ hk_=>⟨hk_.1.1.1,hk_.1.1.2,fun e_=>Or.elim (ho0.1 k_ e_.symm) (fun hs_=>hk_.2.1 hs_) (fun hn_=>Nat.not_le.2 hk_.2.2 hn_)⟩));replace HO_7:=am (Kd.Zo (ok':=fun k_=>some k_ ≠ (.slice qb x3_1.length qc:Value).ownBlock/\some k_ ≠ (.slice qj x4_4.length ql:Value).ownBlock/\some k_ ≠ (jg:Value).ownBlock) (Kd.Zcc (HO_7.o) hkp (fun k_ hk_ hs_=>(hk_.2) hs_)) (fun k_ hk_=>⟨hk_.1.1.1,hk_.1.1.2,fun e_=>Or.elim (ho0.1 k_ e_.symm) (fun hs_=>hk_.2.1 hs_) (fun hn_=>Nat.not_le.2 hk_.2.2 hn_)⟩));replace HB:=am hb;clear qq))
               go_roundg k4
               case measure=>exact pM
               case rel=>exact ⟨(qh),(x4_4),(wrap64 (x5_1 - 1)),pR,(by first|exact H'|(have H_:=H'.out;simp only [<- hji9] at H_;exact ⟨H_⟩)|(refine ⟨?_⟩;have H_:=H'.out;simp only [<- hji9] at H_ ⊢;exact H_)),pJ,⟨by refine rp ?_;exact Kd.Zo jk.o (fun _ hk=>hk.2.1)⟩,⟨by refine rp ?_;exact Kd.Zo HO_4.o (fun _ hk=>hk.2.2)⟩,⟨pB⟩⟩
              ·rw [if_neg c31] at H
               cases H
          ·rw [if_neg c12] at H
           cases H
         ·cases H
        ·cases H
     ·obtain rfl:=Option.some.inj H
      go_wp2
      go_ret
      exact ⟨_,pE,by refine rp ?_;exact Kd.Zo HO_3.o (fun _ hk=>trivial),pB⟩
end YtjbjkmccfocikaaGreatDoor.B
end
section
namespace YtjbjkmccfocikaaGreatDoor.P
open Go.RowKit YtjbjkmccfocikaaGreatDoor.B YtjbjkmccfocikaaGreatDoorW.PrintWords YtjbjkmccfocikaaGreatDoor.P.Nm
theorem Zk6 (x n:Nat) (hx:x < 10):trimL ((x:Int) :: digs n)=digs (n*10+x):=by
 refine Zee (Dg.cons (by omega) (by omega) (Zcg n)) ?_
 rw [Zbk,Zco];omega
theorem Zta (n x:Nat) (hx:x < 10):nd (n*10+x)<=nd n+1:=by
 refine Zgg ?_
 have := Zg5 n
 rw [Nat.pow_succ];omega
theorem Zsr (A:List Int) (b:Nat) (hb:nd b<=100000) (hA:A.length<=100000) (q:List Int) (hq:q.length=A.length) (i:Nat) (hi:i < A.length) (V:List Int × List Int) (r:Nat) (hr:r < 10*b)
  (hV:Tells (fun k=>Zu.l0 k A (digs b) (q.set i ((r / b:Nat):Int)) (digs (r % b)) ((i:Int) - 1)) V) :
  ∀ (n t:Nat),n*b+t=r->q.length=A.length->Tells (fun k=>Zu.l1 k A (digs b) (q.set i (n:Int)) (digs t) (i:Int)) V:=by
 have hb0:0 < b:=by omega
 have hndr:∀ t,t<=r->nd t<=100001:=fun t ht=>by
  refine Nat.le_trans (Zcv (show t<=b*10+0 by omega)) ?_
  have := Zta b 0 (by omega);omega
 suffices h:∀ (f n t:Nat),t<=f->n*b+t=r->Tells (fun k=>Zu.l1 k A (digs b) (q.set i (n:Int)) (digs t) (i:Int)) V from fun n t h1 _=>h t n t (Nat.le_refl _) h1
 intro f
 induction f with
 | zero =>
  intro n t ht h1
  obtain rfl:t=0:=by omega
  have e1:r / b=n:=Nat.div_eq_of_lt_le (by omega) (by rw [Nat.succ_mul];omega)
  have e2:r % b=0:=by rw [<- h1,Nat.add_zero];exact Nat.mul_mod_left n b
  rw [e1,e2] at hV
  have ho:=Zfz 0 b (by rw [Zmc];omega)
  have ec:cmpN 0 b = -1:=by unfold cmpN;rw [if_pos hb0]
  rw [ec] at ho
  have b4:i<=9223372036854775807:=by omega
  refine Tells.succ ?_
  simp only [Zu.l1]
  rw [w64d b4]
  exact ho.bind (Tells.ifn (by decide) hV)
 | succ f ih =>
  intro n t ht h1
  have ho:=Zfz t b (Nat.le_trans (hndr t (by omega)) (by omega))
  have b4:i<=9223372036854775807:=by omega
  by_cases hlt:t < b
  ·have e1:r / b=n:=Nat.div_eq_of_lt_le (by omega) (by rw [Nat.succ_mul];omega)
   have e2:r % b=t:=by rw [<- h1,Nat.mul_comm,Nat.mul_add_mod,Nat.mod_eq_of_lt hlt]
   rw [e1,e2] at hV
   have ec:cmpN t b = -1:=by unfold cmpN;rw [if_pos hlt]
   rw [ec] at ho
   refine Tells.succ ?_
   simp only [Zu.l1]
   rw [w64d b4]
   exact ho.bind (Tells.ifn (by decide) hV)
  ·have ec:cmpN t b >= 0:=by unfold cmpN;rw [if_neg hlt];split <;> omega
   have hm:=Zik t b (by omega) (Nat.le_trans (hndr t (by omega)) (by omega))
   have hn9:n < 10:=by
    refine Nat.not_le.1 (fun h10=>?_)
    have := Nat.mul_le_mul_right b h10
    omega
   have ih':=ih (n+1) (t - b) (by omega) (by rw [Nat.succ_mul];omega)
   have c1:(0:Int)<=(i:Int):=by omega
   have c2:(i:Int) < ((q.set i (n:Int)).length:Int):=by rw [List.length_set];omega
   have hrd:(q.set i (n:Int)).getD i 0=n:=by rw [List.getD,List.getElem?_set_self (by omega)];rfl
   have hset:(q.set i (n:Int)).set i ((n+1:Nat):Int)=q.set i ((n+1:Nat):Int):=List.set_set ..
   refine Tells.succ ?_
   simp only [Zu.l1]
   rw [rd_n,hrd,w64s (by omega),Int.toNat_natCast,hset]
   exact ho.bind (Tells.ifp ec (hm.bind (Tells.ifp c1 (Tells.ifp c2 ih'))))
structure QuotAt (A:List Int) (b j:Nat) (q:List Int) (r:Nat):Prop where
 len:q.length=A.length
 dg:Dg 10 q
 lo:∀ i,i < j->q.getD i 0=0
 r0:r < b
 law:val 10 (A.drop j)=val 10 (q.drop j)*b+r
theorem QuotAt.next {A:List Int} {b j:Nat} {q:List Int} {r:Nat} (h:QuotAt A b (j+1) q r) (hA:Dg 10 A) (hj:j < A.length) (x:Nat) (hx:A.getD j 0=x):QuotAt A b j (q.set j (((r*10+x) / b:Nat):Int)) ((r*10+x) % b):=by
 have hb:=h.r0
 have hxx:=Zk5 hA hj
 have hjq:j < q.length:=by rw [h.len];exact hj
 have hd9:(r*10+x) / b < 10:=(Nat.div_lt_iff_lt_mul (by omega)).2 (by omega)
 refine ⟨by rw [List.length_set];exact h.len,fun y hy=>?_,fun i hi=>?_,Nat.mod_lt _ (by omega),?_⟩
 ·rcases List.mem_or_eq_of_mem_set hy with hy|rfl
  ·exact h.dg y hy
  ·exact ⟨Int.natCast_nonneg _,by exact_mod_cast hd9⟩
 ·rw [getD_set_ne _ (by omega)];exact h.lo i (by omega)
 ·rw [Zfs hj,hx,Zbk,h.law]
  have e:(q.set j (((r*10+x) / b:Nat):Int)).drop j=(((r*10+x) / b:Nat):Int) :: q.drop (j+1):=by
   rw [Zfs (by rw [List.length_set];exact hjq)]
   rw [List.getD,List.getElem?_set_self hjq]
   rw [List.drop_set_of_lt (by omega)];rfl
  rw [e,Zbk,Int.add_mul]
  have hdm:=Nat.div_add_mod (r*10+x) b
  have e2:(((r*10+x) / b:Nat):Int)*(b:Int)+(((r*10+x) % b:Nat):Int)=(r:Int)*10+x:=by
   rw [Int.mul_comm]
   exact_mod_cast hdm
  have e3:10*val 10 (q.drop (j+1))*(b:Int)=10*(val 10 (q.drop (j+1))*b):=Int.mul_assoc _ _ _
  rw [e3]
  omega
theorem Zo8 (A:List Int) (hA:Dg 10 A) (hl:A.length<=100000) (b:Nat) (hb:nd b<=100000) (n:Nat) (hn:val 10 A=n):∀ (j:Nat) (q:List Int) (r:Nat),j<=A.length->QuotAt A b j q r ->
  Tells (fun k=>Zu.l0 k A (digs b) q (digs r) ((j:Int) - 1)) (digs (n / b),digs (n % b))
 | 0,q,r,hj,h=>by
  have hT:=Zdy q (by have := h.len;omega)
  have hlaw:=h.law
  rw [List.drop_zero,List.drop_zero,hn] at hlaw
  obtain ⟨Q,hQ⟩:∃ Q:Nat,val 10 q=Q:=⟨(val 10 q).toNat,by have := Zbj (b:=10) (by omega) h.dg;omega⟩
  rw [hQ] at hlaw
  have hnat:n=Q*b+r:=by exact_mod_cast hlaw
  have hb0:=h.r0
  have e1:n / b=Q:=Nat.div_eq_of_lt_le (by omega) (by rw [Nat.succ_mul];omega)
  have e2:n % b=r:=by rw [hnat,Nat.mul_comm,Nat.mul_add_mod,Nat.mod_eq_of_lt hb0]
  rw [Zee h.dg hQ] at hT
  have c1:¬ (((0:Nat):Int) - 1 >= 0):=by omega
  refine Tells.succ ?_
  simp only [Zu.l0]
  refine Tells.ifn c1 (hT.bind ((Tells.pure _).val ?_))
  rw [e1,e2]
 | j+1,q,r,hj,h=>by
  have hjl:j < A.length:=by omega
  have hxx:=Zk5 hA hjl
  obtain ⟨x,hx⟩:∃ x:Nat,A.getD j 0=(x:Int):=⟨(A.getD j 0).toNat,by omega⟩
  rw [hx] at hxx
  have hnx:=h.next hA hjl x hx
  have hr0:=h.r0
  have ih:=Zo8 A hA hl b hb n hn j _ _ (by omega) hnx
  have hz:q.set j ((0:Nat):Int)=q:=by
   refine List.ext_getElem? (fun i=>?_)
   by_cases e:j=i
   ·subst e
    have hjq:j < q.length:=by rw [h.len];exact hjl
    rw [List.getElem?_set_self hjq,List.getElem?_eq_getElem hjq]
    have := h.lo j (by omega)
    rw [getD_in hjq] at this
    rw [this];rfl
   ·rw [List.getElem?_set_ne e]
  have hl1:=Zsr A b hb hl q h.len j hjl _ (r*10+x) (by omega) ih 0 (r*10+x) (by omega) h.len
  rw [hz] at hl1
  have hnd:(digs r).length<=100000:=Nat.le_trans (Zcv (Nat.le_of_lt hr0)) hb
  have hT:=Zdy ((x:Int) :: digs r) (by simp;omega)
  rw [Zk6 x r (by omega)] at hT
  have c0:(j:Int) >= 0:=by omega
  have c1:(0:Int)<=(j:Int):=by omega
  have c2:(j:Int) < (A.length:Int):=by omega
  have c3:([(x:Int)]:List Int).length+(digs r).length < 17592186044416:=by simp;omega
  refine Tells.succ ?_
  simp only [Zu.l0]
  rw [Zgc,rd_n,hx]
  exact Tells.ifp c0 (Tells.ifp c1 (Tells.ifp c2 ((Tells.pure _).bind (Tells.ifp c3 (hT.bind hl1)))))
theorem Zgy (m n:Nat) (h0:n ≠ 0) (hm:nd m<=100000) (hn:nd n<=100000):Tells (fun k=>Zu.f k (digs m) (digs n)) (digs (m / n),digs (m % n)):=by
 have hm':(digs m).length<=100000:=hm
 have h:=Zo8 (digs m) (Zcg m) hm n hn m (Zco m) (digs m).length (List.replicate (digs m).length 0) 0 (Nat.le_refl _)
  ⟨by simp,Dg.zeros (by omega) _,fun i hi=>by simp [List.getD,List.getElem?_replicate,hi],by omega,by rw [List.drop_length,List.drop_of_length_le (by simp)];simp [val]⟩
 rw [Zef] at h
 unfold Zu.f
 rw [w64d (by omega),Int.toNat_natCast]
 exact Tells.ifp (by omega) (Tells.ifp (by omega) h)
theorem Ztk (r d:Nat):(10*r+(d+1))*(10*r+(d+1))=(10*r+d)*(10*r+d)+(20*r+1+2*d):=by
 rw [show 10*r+(d+1)=(10*r+d)+1 by omega,Nat.add_mul,Nat.mul_add];omega
theorem Zu0 (A:List Int) (hA:A.length<=100000) (r m i:Nat) (hr:nd r<=100000) (hi:i<=100000) (V:List Int) (hm0:10*r*(10*r)<=m) (hm1:m < (10*r+10)*(10*r+10))
  (hV:Tells (fun k=>Zd.l0 k A (digs (root m)) (digs (m - root m*root m)) ((i:Int) - 1)) V) :
  ∀ (f d:Nat),10 - d<=f->(10*r+d)*(10*r+d)<=m->Tells (fun k=>Zd.l1 k A (digs r) (digs (m - (10*r+d)*(10*r+d))) (i:Int) (digs (20*r+1+2*d)) (d:Int)) V:=by
 have hnd1:∀ x,x<=1000*(r+1)->nd x<=100004:=fun x hx=>by
  have h1:=Zg5 r
  refine Nat.le_trans (Zgg (k:=nd r+4) ?_) (by omega)
  rw [Nat.pow_add]
  omega
 have hbig:∀ x,x<=m->nd x<=200100:=fun x hx=>by
  have h1:=Zg5 r
  have h2:x < (10*r+10)*(10*r+10):=by omega
  have h3:10*r+10<=10 ^ (nd r+1):=by rw [Nat.pow_succ];omega
  have h4:=Nat.mul_le_mul h3 h3
  rw [<- Nat.pow_add] at h4
  exact Nat.le_trans (Zgg (k:=nd r+1+(nd r+1)) (by omega)) (by omega)
 intro f
 induction f with
 | zero =>
  intro d hd hdm
  exfalso
  have := Nat.mul_le_mul (show 10*r+10<=10*r+d by omega) (show 10*r+10<=10*r+d by omega)
  omega
 | succ f ih =>
  intro d hd hdm
  have hd10:d < 10:=by
   refine Nat.not_le.1 (fun h=>?_)
   have := Nat.mul_le_mul (show 10*r+10<=10*r+d by omega) (show 10*r+10<=10*r+d by omega)
   omega
  have hs:=Ztk r d
  obtain ⟨s,hss⟩:∃ s,(10*r+d)*(10*r+d)=s:=⟨_,rfl⟩
  rw [hss] at hs hdm ⊢
  have ho:=Zfz (m - s) (20*r+1+2*d) (Nat.le_trans (hbig (m - s) (by omega)) (by omega))
  have b4:i<=9223372036854775807:=by omega
  by_cases hlt:m - s < 20*r+1+2*d
  ·have ec:¬ (cmpN (m - s) (20*r+1+2*d) >= 0):=by unfold cmpN;rw [if_pos hlt];omega
   have hroot:root m=r*10+d:=(Zqq (r:=r*10+d) (by rw [Nat.mul_comm r 10,hss];exact hdm) (by rw [Nat.mul_comm r 10,Nat.add_assoc,hs];omega)).symm
   have hsq:root m*root m=s:=by rw [hroot,Nat.mul_comm r 10,hss]
   rw [hsq,hroot] at hV
   have hrl:(digs r).length<=100000:=hr
   have hT:=Zdy ((d:Int) :: digs r) (by simp;omega)
   rw [Zk6 d r hd10] at hT
   have c3:([(d:Int)]:List Int).length+(digs r).length < 17592186044416:=by simp;omega
   refine Tells.succ ?_
   simp only [Zd.l1]
   rw [w64d b4]
   exact ho.bind (Tells.ifn ec ((Tells.pure _).bind (Tells.ifp c3 (hT.bind hV))))
  ·have ec:cmpN (m - s) (20*r+1+2*d) >= 0:=by unfold cmpN;rw [if_neg hlt];split <;> omega
   have hM:=Zik (m - s) (20*r+1+2*d) (by omega) (Nat.le_trans (hbig (m - s) (by omega)) (by omega))
   have ht:=Zg6 (20*r+1+2*d) 1 2 (by omega) (by omega) (Nat.le_trans (hnd1 _ (by omega)) (by omega)) (by omega)
   have ih':=ih (d+1) (by omega) (by omega)
   rw [hs] at ih'
   have e1:m - s - (20*r+1+2*d)=m - (s+(20*r+1+2*d)):=by omega
   have e2:(20*r+1+2*d)*1+2=20*r+1+2*(d+1):=by omega
   rw [e1] at hM
   rw [e2] at ht
   refine Tells.succ ?_
   simp only [Zd.l1]
   rw [w64s (by omega)]
   exact ho.bind (Tells.ifp ec (hM.bind (ht.bind ih')))
theorem Zrx (m:Nat) (p:Nat) (hp:p < 100):10*root m*(10*root m)<=m*100+p/\m*100+p < (10*root m+10)*(10*root m+10):=by
 obtain ⟨h1,h2⟩:=Zgm m
 have e1:10*root m*(10*root m)=100*(root m*root m):=by rw [Nat.mul_mul_mul_comm]
 have e2:(10*root m+10)*(10*root m+10)=100*((root m+1)*(root m+1)):=by rw [show 10*root m+10=10*(root m+1) by omega,Nat.mul_mul_mul_comm]
 rw [e1,e2]
 omega
theorem Zmo (m:Nat) (k:Nat) (h:nd m<=k):nd (root m)<=k:=Nat.le_trans (Zcv (by
 obtain ⟨h1,_⟩:=Zgm m
 rcases Nat.eq_zero_or_pos (root m) with h|h
 ·omega
 ·exact Nat.le_trans (Nat.le_mul_of_pos_right _ h) h1)) h
theorem Zt6 (A:List Int) (hA:Dg 10 A) (hl:A.length<=100000) (hne:0 < A.length) (n:Nat) (hn:val 10 A=n):∀ (j m:Nat),2*j<=A.length+1->val 10 (A.drop (2*j))=m ->
  Tells (fun k=>Zd.l0 k A (digs (root m)) (digs (m - root m*root m)) ((j:Int) - 1)) (digs (root n))
 | 0,m,hj,h=>by
  rw [Nat.mul_zero,List.drop_zero,hn] at h
  obtain rfl:n=m:=by omega
  have c1:¬ (((0:Nat):Int) - 1 >= 0):=by omega
  refine Tells.succ ?_
  simp only [Zd.l0]
  refine Tells.ifn c1 (Tells.succ ?_)
  simp only [Zd.j1]
  exact Tells.ifn (by simp) (Tells.pure _)
 | j+1,m,hj,h=>by
  have hjl:2*j < A.length:=by omega
  have hx:=Zk5 hA hjl
  have hy:=Ziv (by omega) hA (2*j+1)
  obtain ⟨x,hxx⟩:∃ x:Nat,A.getD (2*j) 0=(x:Int):=⟨(A.getD (2*j) 0).toNat,by omega⟩
  obtain ⟨y,hyy⟩:∃ y:Nat,A.getD (2*j+1) 0=(y:Int):=⟨(A.getD (2*j+1) 0).toNat,by omega⟩
  rw [hxx] at hx
  rw [hyy] at hy
  have hval:val 10 (A.drop (2*j))=((m*100+(y*10+x):Nat):Int):=by
   rw [Zfs hjl,hxx,Zbk]
   have hd1:val 10 (A.drop (2*j+1))=y+10*m:=by
    by_cases h1:2*j+1 < A.length
    ·rw [Zfs h1,hyy,Zbk,<- h];rfl
    ·rw [List.drop_of_length_le (by omega)] at h ⊢
     have h0:=Ze3 (l:=A) (i:=2*j+1) (by omega)
     have hm0:m=0:=by simp [val] at h;omega
     rw [hm0];simp [val];omega
   rw [hd1];omega
  obtain ⟨p,hp⟩:∃ p,y*10+x=p:=⟨_,rfl⟩
  rw [hp] at hval
  have hp100:p < 100:=by omega
  have ih:=Zt6 A hA hl hne n hn j (m*100+p) (by omega) hval
  have hndm:nd m<=100000:=by
   obtain ⟨K,hK⟩:∃ K,K=100000:=⟨_,rfl⟩
   rw [<- hK] at hl ⊢
   refine Zgg ?_
   have h1:=Zd2 (b:=10) (by omega) (hA.drop (2*(j+1)))
   rw [h,pw10] at h1
   have h2:m < 10 ^ (A.drop (2*(j+1))).length:=by exact_mod_cast h1
   exact Nat.lt_of_lt_of_le h2 (Nat.pow_le_pow_right (by decide) (Nat.le_trans (by rw [List.length_drop];exact Nat.sub_le _ _) hl))
  have hrn:=Zmo m 100000 hndm
  obtain ⟨r1,r2⟩:=Zrx m p hp100
  have hl1:=Zu0 A hl (root m) (m*100+p) j hrn (by omega) _ r1 r2 ih 10 0 (by omega) r1
  obtain ⟨q1,q2⟩:=Zgm m
  have e1:m*100+p - 10*root m*(10*root m)=(m - root m*root m)*100+p:=by
   rw [Nat.mul_mul_mul_comm];omega
  rw [Nat.mul_zero,Nat.add_zero,Nat.add_zero,e1] at hl1
  have hnr:(digs (m - root m*root m)).length<=100000:=Nat.le_trans (Zcv (Nat.sub_le _ _)) hndm
  have hT:=Zdy ((x:Int) :: (y:Int) :: digs (m - root m*root m)) (by simp;omega)
  have e2:trimL ((x:Int) :: (y:Int) :: digs (m - root m*root m))=digs ((m - root m*root m)*100+p):=by
   refine Zee (Dg.cons (by omega) (by omega) (Dg.cons (by omega) (by omega) (Zcg _))) ?_
   rw [Zbk,Zbk,Zco];omega
  rw [e2] at hT
  have ht:=Zg6 (root m) 20 1 (by omega) (by omega) (by omega) (by omega)
  rw [Nat.mul_comm (root m) 20] at ht
  have c0:(j:Int) >= 0:=by omega
  have c1:(A.length:Int) > 0:=by omega
  have c2:(0:Int)<=((2*j:Nat):Int):=by omega
  have c3:((2*j:Nat):Int) < (A.length:Int):=by omega
  have c4:([(x:Int),(y:Int)]:List Int).length+(digs (m - root m*root m)).length < 17592186044416:=by simp;omega
  have c5:(0:Int)<=((2*j+1:Nat):Int):=by omega
  have b1:2*j<=9223372036854775807:=by omega
  have b2:2*j < 9223372036854775807:=by omega
  have tail:Tells (fun k=>Zd.j2 k A (digs (root m)) (digs (m - root m*root m)) (j:Int) (y:Int)) (digs (root n)):=by
   refine Tells.succ ?_
   simp only [Zd.j2]
   rw [show (2:Int)*(j:Int)=((2*j:Nat):Int) by omega,w64c b1,rd_n,hxx]
   exact Tells.ifp c2 (Tells.ifp c3 ((Tells.pure _).bind (Tells.ifp c4 (hT.bind (ht.bind hl1)))))
  refine Tells.succ ?_
  simp only [Zd.l0]
  rw [Zgc]
  refine Tells.ifp c0 (Tells.succ ?_)
  simp only [Zd.j1]
  rw [show (2:Int)*(j:Int)=((2*j:Nat):Int) by omega,w64c b1,w64s b2,rd_n,hyy]
  refine Tells.ifp (decide_eq_true c1) ?_
  by_cases h1:2*j+1 < A.length
  ·exact Tells.ifp (by omega) (Tells.ifp c5 tail)
  ·have h0:=Ze3 (l:=A) (i:=2*j+1) (by omega)
   have hy0:(y:Int)=0:=by omega
   rw [hy0] at tail
   exact Tells.ifn (by omega) tail
theorem Zic (m:Nat) (hm:nd m<=100000):Tells (fun k=>Zd.f k (digs m)) (digs (root m)):=by
 have hm':(digs m).length<=100000:=hm
 unfold Zd.f
 by_cases h0:m=0
 ·subst h0
  have e:wrap64 (Int.tdiv (wrap64 (((digs 0).length:Int) - 1)) 2)=0:=by decide +kernel
  rw [e]
  refine Tells.succ ?_
  simp only [Zd.l0]
  refine Tells.ifp (by decide) (Tells.succ ?_)
  simp only [Zd.j1]
  exact Tells.ifn (by rw [Zef];simp) (Tells.pure _)
 ·have hpos:0 < (digs m).length:=Zgh h0
  obtain ⟨j,hj⟩:∃ j,((digs m).length+1) / 2=j:=⟨_,rfl⟩
  have h:=Zt6 (digs m) (Zcg m) hm hpos m (Zco m) j 0 (by omega) (by rw [List.drop_of_length_le (by omega)];rfl)
  have e2:root 0=0:=rfl
  rw [e2] at h
  have e:wrap64 (Int.tdiv (((digs m).length:Int) - 1) 2)=(j:Int) - 1:=by
   rw [Int.tdiv_eq_ediv_of_nonneg (by omega)]
   rw [w64n (by omega) (by omega)];omega
  rw [w64d (by omega),e]
  exact h
theorem Zoo (n:Nat) (h:n ≠ 0):strOfNums ((digs n).reverse.map fun d=>48+d)=decT n:=by
 unfold decT strOfNums
 rw [if_neg h,List.map_map]
 congr 2
 refine List.map_congr_left (fun d hd=>?_)
 have := Zcg n d (List.mem_reverse.1 hd)
 show UInt8.ofNat ((48+d).toNat)=UInt8.ofNat (48+d.toNat)
 congr 1;omega
theorem Zft:limbs 0=[]:=rfl
def chkL (l:List Int):Int:=if 256 < l.length then 5 else if l.getLast? = some 0 then 9 else 0
theorem Zs5 {l:List Int} (h:0 < l.length):l.getLast? = some (l.getD (l.length - 1) 0):=by
 rw [List.getLast?_eq_getElem?,getD_in (by omega),List.getElem?_eq_getElem (by omega)]
theorem Zk1 (l:List Int) (hl:l.length<=9223372036854775807):(if (l.length:Int) > 256 then (some 5) else (if (l.length:Int) > 0 then (if 0<=(wrap64 ((l.length:Int) - 1)) then (if (wrap64 ((l.length:Int) - 1)) < (l.length:Int) then (if (rd l (wrap64 ((l.length:Int) - 1)))=0 then (some 9) else (some 0)) else (none)) else (none)) else (some 0)):Option Int)=some (chkL l):=by
 unfold chkL
 by_cases h:256 < l.length
 ·rw [if_pos (by omega),if_pos h]
 ·rw [if_neg (by omega),if_neg h]
  by_cases h0:0 < l.length
  ·have e:(l.length:Int) - 1=((l.length - 1:Nat):Int):=by omega
   rw [if_pos (by omega),w64d hl,e,if_pos (by omega),if_pos (by omega),rd_n,Zs5 h0]
   by_cases h1:l.getD (l.length - 1) 0=0
   ·rw [if_pos h1,if_pos (by rw [h1])]
   ·rw [if_neg h1,if_neg (by simpa using h1)]
  ·rw [if_neg (by omega)]
   obtain rfl:l=[]:=List.eq_nil_of_length_eq_zero (by omega)
   rfl
theorem Zjy (l:List Int) (hl:l.length<=9223372036854775807):Zb6.f l=some (chkL l):=by
 unfold Zb6.f;exact Zk1 l hl
theorem Zl1 {l:List Int} (hd:Dg 4294967296 l):chkL l=0 ↔ Ok l:=by
 unfold chkL
 constructor
 ·intro h
  by_cases h1:256 < l.length
  ·rw [if_pos h1] at h;cases h
  ·rw [if_neg h1] at h
   by_cases h2:l.getLast? = some 0
   ·rw [if_pos h2] at h;cases h
   ·exact ⟨by omega,hd,h2⟩
 ·intro h
  rw [if_neg (by have := h.len;omega),if_neg h.nz]
end YtjbjkmccfocikaaGreatDoor.P
end
section
namespace YtjbjkmccfocikaaGreatDoor.P.Nm
theorem Zps {U V P u3 v2 q:Int} (hP:0 < P) (hU:U < (u3+1)*P) (hV:v2*P<=V) (hq0:0<=q) (hq:q*V<=U):q*v2<=u3:=by
 have h1:q*(v2*P)<=q*V:=Int.mul_le_mul_of_nonneg_left hV hq0
 have h2:(q*v2)*P < (u3+1)*P:=by rw [Int.mul_assoc];omega
 have := Int.lt_of_mul_lt_mul_right h2 (by omega)
 omega
theorem Zoh {U V P u3 v2 q g:Int} (hP:0 < P) (hU:u3*P<=U) (hV:V < (v2+1)*P) (hg:g*v2<=u3) (hq:U < (q+1)*V) (hq0:0<=q) (hv:q+1<=v2):g<=q+1:=by
 refine Int.not_lt.1 (fun h=>?_)
 have h1:(q+2)*v2<=g*v2:=Int.mul_le_mul_of_nonneg_right (by omega) (by omega)
 have h2:(q+2)*v2*P<=u3*P:=Int.mul_le_mul_of_nonneg_right (by omega) (by omega)
 have h3:(q+1)*V<=(q+1)*((v2+1)*P):=Int.mul_le_mul_of_nonneg_left (by omega) (by omega)
 have h4:(q+2)*v2*P < (q+1)*(v2+1)*P:=by rw [Int.mul_assoc (q+1)];omega
 have h5:=Int.lt_of_mul_lt_mul_right h4 (by omega)
 have e1:(q+2)*v2=q*v2+2*v2:=Int.add_mul _ _ _
 have e2:(q+1)*(v2+1)=q*v2+q+v2+1:=by rw [Int.add_mul,Int.mul_add];omega
 omega
end YtjbjkmccfocikaaGreatDoor.P.Nm
end
section
namespace YtjbjkmccfocikaaGreatDoor.B
open Go.RowKit YtjbjkmccfocikaaGreatDoorW.PrintWords YtjbjkmccfocikaaGreatDoorW.PrintLast YtjbjkmccfocikaaGreatDoorW.PrintMore
attribute [local go_sem] Zch Zci Zc9 Zda Zb1 Zb2 Zcp Zcq
def Zz.l0:Nat->List Int->Option (List Int)
 | 0,_=>none
 | k+1,x0=>if (x0.length:Int) > 0 then (if 0<=(wrap64 ((x0.length:Int) - 1)) then (if (wrap64 ((x0.length:Int) - 1)) < (x0.length:Int) then (if (rd x0 (wrap64 ((x0.length:Int) - 1)))=0 then (if (wrap64 ((x0.length:Int) - 1))<=(x0.length:Int) then (Zz.l0 k (x0.take ((wrap64 ((x0.length:Int) - 1)):Int).toNat)) else (none)) else (if (x0.length:Int)=0 then (some ([]:List Int)) else (some x0))) else (none)) else (none)) else (if (x0.length:Int)=0 then (some ([]:List Int)) else (some x0))
def Zz.f (k:Nat) (l0:List Int):Option (List Int):=Zz.l0 k l0
theorem Zz.calls (k:Nat) (P0_:Nat->Prop) (u9000_:Value) (l0:List Int) (r:List Int) (w0 w:World) (hB:Below w0.heap.size w0 w) (ho0:Kd.R (Kd.int .u32) 85 w w0.heap.size P0_ u9000_ l0) (h:Zz.f k l0=some r) :
  Calls Tryz.prog 132 #[u9000_] w fun e w' => ∃ v0_:Value,e=.returned (v0_)/\Kd.R (Kd.int .u32) 85 w' w0.heap.size (fun k_=>(P0_ k_\/w.heap.size<=k_)) v0_ r/\Below w0.heap.size w0 w'/\Kept w w' (fun k_=>P0_ k_):=by
 have HO0:=am (show Kd.R (Kd.int .u32) 85 w w0.heap.size (fun k_=>(P0_ k_\/w.heap.size<=k_)) u9000_ l0 from Kd.Zo ho0 (fun k_ hk=>(.inl hk)))
 have HK:=am (Kept.refl w (fun k_=>P0_ k_))
 have HW0:=am hB.size
 have HB:=am hB
 clear hB
 have H:(Zz.l0 k l0)=some r:=h
 clear h
 have H':=am H
 clear H
 go_enter Tryz.func132,Tryz.ntmps132
 go_wp2
 go_loopg [0] k (fun kq v0 w' => ∃ (x0_1:List Int),Aside0 (Zz.l0 kq x0_1=some r)/\Aside0 (kq<=k)/\Aside0 (Kd.R (Kd.int .u32) 85 w' w0.heap.size (fun k_=>(P0_ k_\/w.heap.size<=k_)) v0 x0_1)/\Aside0 (Kept w w' (fun k_=>P0_ k_))/\Aside0 (Below w0.heap.size w0 w'))
 case atStart=>exact ⟨(l0),H',⟨Nat.le_refl _⟩,⟨by refine rp ?_;exact HO0.o⟩,⟨by repeat (first|(with_reducible first|exact HK.out|apply Kept.alloc|apply Kept.drewN|apply Kept.drew)|exact HK.out)⟩,⟨pB⟩⟩
 case round =>
  clear H'
  obtain ⟨x0_1,HA,HK1,HO_0,HK,HB⟩:=hrel
  cases gk with
  | zero=>exact absurd HA.out (by simp [Zz.l0])
  | succ k1 =>
   have H:=HA.out
   clear HA
   simp only [Zz.l0] at H
   by_cases c2:(x0_1.length:Int) > 0
   ·rw [if_pos c2] at H
    have c2b0:decide (0 < (x0_1.length:Int))=true:=decide_eq_true c2
    have c2b1:decide (0 < x0_1.length)=true:=decide_eq_true (by omega)
    clear c2
    obtain ⟨ji3,hji3⟩:∃ j_:Int,(wrap64 ((x0_1.length:Int) - 1))=j_:=⟨_,rfl⟩
    replace H:(if 0<=(ji3) then (if (ji3) < (x0_1.length:Int) then (if (rd x0_1 (ji3))=0 then (if (ji3)<=(x0_1.length:Int) then (Zz.l0 k1 (x0_1.take ((ji3):Int).toNat)) else (none)) else (if (x0_1.length:Int)=0 then (some ([]:List Int)) else (some x0_1))) else (none)) else (none))=some r:=by first|(rw [hji3] at H;exact H)|(simp only [hji3] at H ⊢;exact H)
    have hji3w:(IntKind.i64.wrap ((x0_1.length:Int) - 1))=ji3:=(Zb9 _).trans hji3
    replace H:=dI H
    rcases H with ⟨c4b0,H⟩|⟨_,H⟩
    ·replace H:=dI H
     rcases H with ⟨c5b0,H⟩|⟨_,H⟩
     ·replace H:=eI H
      rcases H with ⟨c6b0,c6b1,H⟩|⟨c6,c6b0,c6b1,H⟩
      ·replace H:=iI H
       rcases H with ⟨c7b0,c7b1,H⟩|⟨_,_,H⟩
       ·obtain ⟨qh,qf⟩:∃ y_:List Int,y_=(x0_1.take ((ji3):Int).toNat):=⟨_,rfl⟩
        replace H:(Zz.l0 k1 qh)=some r:=by have hy_:=qf;exact pH
        have qg:=am qf
        clear qf
        have H':=am H
        clear H
        obtain ⟨Ao8,co8,eo8⟩:=Kd.Zh HO_0.o
        subst eo8
        have qa:0<=((ji3):Int):=of_decide_eq_true pQ
        have qb:(ji3) < (x0_1.length:Int):=of_decide_eq_true pQ
        obtain ⟨qd,qe,qc⟩:=Kd.Zay (Kd.Zc HO_0.o).2.2 (ji3) qa qb
        cases qe
        replace qa:=eq_true qa
        replace qb:=eq_true qb
        have q9:((ji3):Int)<=((x0_1.length:Int):Int):=of_decide_eq_true pQ
        obtain ⟨i09,hi09,_,hsz9,_⟩:=info_parts info85
        have hcut9:=Zh7 (P:=Tryz.prog) 134 85 .i64 Tryz.underlying134 hi09 (some qd) x0_1.length co8 (ji3) (of_decide_eq_true pQ) q9 (Kd.Zc HO_0.o).2.1
        have hr9:=Kd.Zpc (m:=((ji3):Int).toNat) HO_0.o (by omega)
        have hy9:qh.length=((ji3):Int).toNat:=(by rw [qg.out,List.length_take];omega)
        rw [<- qg.out] at hr9
        rw [<- hy9] at hr9 hcut9
        clear hy9 hi09 hsz9 HO_0
        have qi:=am hr9
        clear hr9
        replace q9:=eq_true q9
        go_wp2
        go_roundg k1
        case measure=>exact pM
        case rel=>exact ⟨(qh),(by first|exact H'|(have H_:=H'.out;simp only [<- hji3] at H_;exact ⟨H_⟩)|(refine ⟨?_⟩;have H_:=H'.out;simp only [<- hji3] at H_ ⊢;exact H_)),pJ,⟨by refine rp ?_;exact qi.o⟩,⟨by repeat (first|(with_reducible first|exact HK.out|apply Kept.alloc|apply Kept.drewN|apply Kept.drew)|exact HK.out)⟩,⟨pB⟩⟩
       ·cases H
      ·replace H:=eI H
       rcases H with ⟨c10b0,c10b1,H⟩|⟨c10,c10b0,c10b1,H⟩
       ·obtain rfl:=Option.some.inj H
        obtain ⟨qn,qr,qj⟩:=Kd.Zh HO_0.o
        subst qj
        have qa:0<=((ji3):Int):=of_decide_eq_true pQ
        have qb:(ji3) < (x0_1.length:Int):=of_decide_eq_true pQ
        obtain ⟨qd,qe,qc⟩:=Kd.Zay (Kd.Zc HO_0.o).2.2 (ji3) qa qb
        cases qe
        replace qa:=eq_true qa
        replace qb:=eq_true qb
        go_wp2
        go_ret
        exact ⟨_,by first|rfl|(simp [Zap,Zaq] <;> rfl)|(simp only [<- hji3];first|rfl|(simp [Zap,Zaq] <;> rfl))|(simp [*,Zap,Zaq] <;> rfl),pN,pB,by repeat (first|(with_reducible first|exact HK.out|apply Kept.alloc|apply Kept.drewN|apply Kept.drew)|exact HK.out)⟩
       ·have c10b2:¬ (x0_1=[]):=fun h_=>c10 (by rw [h_];rfl)
        obtain rfl:=Option.some.inj H
        obtain ⟨qo,qs,qk⟩:=Kd.Zh HO_0.o
        subst qk
        have qa:0<=((ji3):Int):=of_decide_eq_true pQ
        have qb:(ji3) < (x0_1.length:Int):=of_decide_eq_true pQ
        obtain ⟨qd,qe,qc⟩:=Kd.Zay (Kd.Zc HO_0.o).2.2 (ji3) qa qb
        cases qe
        replace qa:=eq_true qa
        replace qb:=eq_true qb
        go_wp2
        go_ret
        exact ⟨_,by first|rfl|(simp [Zap,Zaq] <;> rfl)|(simp only [<- hji3];first|rfl|(simp [Zap,Zaq] <;> rfl))|(simp [*,Zap,Zaq] <;> rfl),by refine rp ?_;exact HO_0.o,pB,by repeat (first|(with_reducible first|exact HK.out|apply Kept.alloc|apply Kept.drewN|apply Kept.drew)|exact HK.out)⟩
     ·cases H
    ·cases H
   ·rw [if_neg c2] at H
    have c2b0:decide (0 < (x0_1.length:Int))=false:=decide_eq_false c2
    have c2b1:decide (0 < x0_1.length)=false:=decide_eq_false (by omega)
    clear c2
    replace H:=eI H
    rcases H with ⟨c13b0,c13b1,H⟩|⟨c13,c13b0,c13b1,H⟩
    ·obtain rfl:=Option.some.inj H
     obtain ⟨qp,qt,ql⟩:=Kd.Zh HO_0.o
     subst ql
     go_wp2
     go_ret
     exact ⟨_,pE,pN,pB,by repeat (first|(with_reducible first|exact HK.out|apply Kept.alloc|apply Kept.drewN|apply Kept.drew)|exact HK.out)⟩
    ·have c13b2:¬ (x0_1=[]):=fun h_=>c13 (by rw [h_];rfl)
     obtain rfl:=Option.some.inj H
     obtain ⟨qq,qu,qm⟩:=Kd.Zh HO_0.o
     subst qm
     go_wp2
     go_ret
     exact ⟨_,pE,by refine rp ?_;exact HO_0.o,pB,by repeat (first|(with_reducible first|exact HK.out|apply Kept.alloc|apply Kept.drewN|apply Kept.drew)|exact HK.out)⟩
mutual
def Zag.l0:Nat->List Int->List Int->List Int->Int->Int->Option (List Int)
 | 0,_,_,_,_,_=>none
 | k+1,x1,x5,x18,x19,x20=>if x20 < x19 then (if 0<=x20 then (if x20 < (x18.length:Int) then (Zag.l1 k x1 x5 x20 (rd x18 x20) 0 x18 x19 x20 x1 (x1.length:Int) 0) else (none)) else (none)) else ((Zz.f k x5).bind fun qp=>(some qp))
def Zag.l1:Nat->List Int->List Int->Int->Int->Int->List Int->Int->Int->List Int->Int->Int->Option (List Int)
 | 0,_,_,_,_,_,_,_,_,_,_,_=>none
 | k+1,x1,x5,x6,x7,x8,x18,x19,x20,x25,x26,x27=>if x27 < x26 then (if 0<=x27 then (if x27 < (x25.length:Int) then (if 0<=(wrap64 (x6+x27)) then (if (wrap64 (x6+x27)) < (x5.length:Int) then (Zag.l1 k x1 (x5.set ((wrap64 (x6+x27)):Int).toNat ((IntKind.u64.wrap ((IntKind.u64.wrap ((IntKind.u64.wrap ((IntKind.u64.wrap (x7))*(IntKind.u64.wrap (rd x25 x27))))+(IntKind.u64.wrap (rd x5 (wrap64 (x6+x27))))))+x8)) % 4294967296)) x6 x7 ((IntKind.u64.wrap ((IntKind.u64.wrap ((IntKind.u64.wrap ((IntKind.u64.wrap (x7))*(IntKind.u64.wrap (rd x25 x27))))+(IntKind.u64.wrap (rd x5 (wrap64 (x6+x27))))))+x8)) / 4294967296) x18 x19 x20 x25 x26 (wrap64 (x27+1))) else (none)) else (none)) else (none)) else (none)) else (if 0<=(wrap64 (x6+(x1.length:Int))) then (if (wrap64 (x6+(x1.length:Int))) < (x5.length:Int) then (Zag.l0 k x1 (x5.set ((wrap64 (x6+(x1.length:Int))):Int).toNat ((x8) % 4294967296)) x18 x19 (wrap64 (x20+1))) else (none)) else (none))
end
def Zag.f (k:Nat) (l0:List Int) (l1:List Int):Option (List Int):=if 0<=(wrap64 ((l0.length:Int)+(l1.length:Int))) then (if (wrap64 ((l0.length:Int)+(l1.length:Int)):Int).toNat<=70368744177664 then (Zag.l0 k l1 (List.replicate (wrap64 ((l0.length:Int)+(l1.length:Int)):Int).toNat 0) l0 (l0.length:Int) 0) else (none)) else (none)
theorem Zag.calls (k:Nat) (A0:Option Addr) (c0:Nat) (l0:List Int) (A1:Option Addr) (c1:Nat) (l1:List Int) (r:List Int) (w:World) (hr0:Kd.C (Kd.int .u32) w A0 l0.length l0) (hc0:l0.length<=c0) (hr1:Kd.C (Kd.int .u32) w A1 l1.length l1) (hc1:l1.length<=c1) (h:Zag.f k l0 l1=some r) :
  Calls Tryz.prog 129 #[.slice A0 l0.length c0,.slice A1 l1.length c1] w fun e w' => ∃ v0_:Value,e=.returned (v0_)/\Kd.R (Kd.int .u32) 85 w' w.heap.size (fun _=>True) v0_ r/\Below w.heap.size w w':=by
 have HR0:=am hr0
 have HC0:=am hc0
 clear hr0 hc0
 have HR1:=am hr1
 have HC1:=am hc1
 clear hr1 hc1
 have HB:=am (Below.refl w.heap.size w)
 have H:(if 0<=(wrap64 ((l0.length:Int)+(l1.length:Int))) then (if (wrap64 ((l0.length:Int)+(l1.length:Int)):Int).toNat<=70368744177664 then (Zag.l0 k l1 (List.replicate (wrap64 ((l0.length:Int)+(l1.length:Int)):Int).toNat 0) l0 (l0.length:Int) 0) else (none)) else (none))=some r:=h
 clear h
 obtain ⟨ji3,hji3⟩:∃ j_:Int,(wrap64 ((l0.length:Int)+(l1.length:Int)))=j_:=⟨_,rfl⟩
 replace H:(if 0<=(ji3) then (if (ji3:Int).toNat<=70368744177664 then (Zag.l0 k l1 (List.replicate (ji3:Int).toNat 0) l0 (l0.length:Int) 0) else (none)) else (none))=some r:=by first|(rw [hji3] at H;exact H)|(simp only [hji3] at H ⊢;exact H)
 have hji3w:(IntKind.i64.wrap ((l0.length:Int)+(l1.length:Int)))=ji3:=(Zb9 _).trans hji3
 replace H:=iI H
 rcases H with ⟨c4b0,c4b1,H⟩|⟨_,_,H⟩
 ·replace H:=iI H
  rcases H with ⟨c5b0,c5b1,H⟩|⟨_,_,H⟩
  ·obtain ⟨q1,qc⟩:∃ y_:List Int,y_=(List.replicate (ji3:Int).toNat 0):=⟨_,rfl⟩
   replace H:(Zag.l0 k l1 q1 l0 (l0.length:Int) 0)=some r:=by have hy_:=qc;exact pH
   have qg:=am qc
   clear qc
   have H':=am H
   clear H
   go_enter Tryz.func129,Tryz.ntmps129
   go_wp2_with (first|((with_reducible refine gd 17 ?_);refine Kd.Zks (Kd.int .u32) _ 85 rfl (N:=17) rfl 134 _ _ rfl ji3 rfl rfl Tryz.underlying134 (.int .u32 0) 4 info85 rfl (by decide) (by omega) 0 (ok:=fun _=>True) (okp:=fun _=>True) rfl (fun _ hk=>hk) trivial (of_decide_eq_true pQ) (Nat.le_trans (Nat.mul_le_mul_right _ (of_decide_eq_true pQ:ji3.toNat<=70368744177664)) (by omega)) (Below.refl _ _) (Nat.le_refl _) ?_;intro q0 w6 ho7 hb hg_ hnew_;clear hg_ hnew_;(first|rw [<- qg.out] at ho7|(simp only [Int.reduceToNat] at ho7;rw [<- qg.out] at ho7));have qs:=am (Kd.Zn ho7 (Zb pB));replace HB:=bS hb;clear hb ho7))
   go_loopg [20] k (fun kq v20 w' => ∃ (x5_1:List Int) (x20_1:Int),v20=.int .i64 x20_1/\Aside0 (Zag.l0 kq l1 x5_1 l0 (l0.length:Int) x20_1=some r)/\Aside0 (kq<=k)/\Aside0 (Kd.R (Kd.int .u32) 85 w' w.heap.size (fun _=>True) q0 x5_1)/\Aside0 (Below w.heap.size w w'))
   case atStart=>exact ⟨(q1),(0),pR,H',⟨Nat.le_refl _⟩,⟨by refine rp ?_;exact qs.o⟩,⟨pB⟩⟩
   case round =>
    clear H'
    obtain ⟨x5_1,x20_1,rfl,HA,HK1,HO_5,HB⟩:=hrel
    cases gk with
    | zero=>exact absurd HA.out (by simp [Zag.l0])
    | succ k1 =>
     have H:=HA.out
     clear HA
     simp only [Zag.l0] at H
     replace H:=dI H
     rcases H with ⟨c8b0,H⟩|⟨c8b0,H⟩
     ·replace H:=dI H
      rcases H with ⟨c9b0,H⟩|⟨_,H⟩
      ·replace H:=dI H
       rcases H with ⟨c10b0,H⟩|⟨_,H⟩
       ·have H':=am H
        clear H
        have qj:0<=(x20_1:Int):=of_decide_eq_true pQ
        have qm:x20_1 < (l0.length:Int):=of_decide_eq_true pQ
        obtain ⟨q9,q4,qa⟩:=Kd.Zay HR0.o x20_1 qj qm
        cases q4
        replace qa:=(HB.o.cell (World.block_lt_of_cell? w _ qa)).trans qa
        replace qj:=eq_true qj
        replace qm:=eq_true qm
        go_wp2
        go_loopg [8,27] k1 (fun kq v8 v27 w' => ∃ (x5_2:List Int) (x8_2:Int) (x27_2:Int),v8=.int .u64 x8_2/\v27=.int .i64 x27_2/\Aside0 (Zag.l1 kq l1 x5_2 x20_1 (rd l0 x20_1) x8_2 l0 (l0.length:Int) x20_1 l1 (l1.length:Int) x27_2=some r)/\Aside0 (kq<=k1)/\Aside0 (Kd.R (Kd.int .u32) 85 w' w.heap.size (fun _=>True) q0 x5_2)/\Aside0 (Below w.heap.size w w'))
        case atStart=>exact ⟨(x5_1),(0),(0),pR,pR,H',⟨Nat.le_refl _⟩,⟨by refine rp ?_;exact HO_5.o⟩,⟨pB⟩⟩
        case round =>
         clear H'
         obtain ⟨x5_2,x8_2,x27_2,rfl,rfl,HA,HK2,HO_5,HB⟩:=hrel
         cases gk with
         | zero=>exact absurd HA.out (by simp [Zag.l1])
         | succ k2 =>
          have H:=HA.out
          clear HA
          simp only [Zag.l1] at H
          replace H:=dI H
          rcases H with ⟨c11b0,H⟩|⟨c11b0,H⟩
          ·replace H:=dI H
           rcases H with ⟨c12b0,H⟩|⟨_,H⟩
           ·replace H:=dI H
            rcases H with ⟨c13b0,H⟩|⟨_,H⟩
            ·obtain ⟨ji14,hji14⟩:∃ j_:Int,(wrap64 (x20_1+x27_2))=j_:=⟨_,rfl⟩
             replace H:(if 0<=(ji14) then (if (ji14) < (x5_2.length:Int) then (Zag.l1 k2 l1 (x5_2.set ((ji14):Int).toNat ((IntKind.u64.wrap ((IntKind.u64.wrap ((IntKind.u64.wrap ((IntKind.u64.wrap ((rd l0 x20_1)))*(IntKind.u64.wrap (rd l1 x27_2))))+(IntKind.u64.wrap (rd x5_2 (ji14)))))+x8_2)) % 4294967296)) x20_1 (rd l0 x20_1) ((IntKind.u64.wrap ((IntKind.u64.wrap ((IntKind.u64.wrap ((IntKind.u64.wrap ((rd l0 x20_1)))*(IntKind.u64.wrap (rd l1 x27_2))))+(IntKind.u64.wrap (rd x5_2 (ji14)))))+x8_2)) / 4294967296) l0 (l0.length:Int) x20_1 l1 (l1.length:Int) (wrap64 (x27_2+1))) else (none)) else (none))=some r:=by first|(rw [hji14] at H;exact H)|(simp only [hji14] at H ⊢;exact H)
             have hji14w:(IntKind.i64.wrap (x20_1+x27_2))=ji14:=(Zb9 _).trans hji14
             replace H:=dI H
             rcases H with ⟨c15b0,H⟩|⟨_,H⟩
             ·replace H:=dI H
              rcases H with ⟨c16b0,H⟩|⟨_,H⟩
              ·obtain ⟨qq,qd⟩:∃ y_:List Int,y_=(x5_2.set ((ji14):Int).toNat ((IntKind.u64.wrap ((IntKind.u64.wrap ((IntKind.u64.wrap ((IntKind.u64.wrap ((rd l0 x20_1)))*(IntKind.u64.wrap (rd l1 x27_2))))+(IntKind.u64.wrap (rd x5_2 (ji14)))))+x8_2)) % 4294967296)):=⟨_,rfl⟩
               replace H:(Zag.l1 k2 l1 qq x20_1 (rd l0 x20_1) ((IntKind.u64.wrap ((IntKind.u64.wrap ((IntKind.u64.wrap ((IntKind.u64.wrap ((rd l0 x20_1)))*(IntKind.u64.wrap (rd l1 x27_2))))+(IntKind.u64.wrap (rd x5_2 (ji14)))))+x8_2)) / 4294967296) l0 (l0.length:Int) x20_1 l1 (l1.length:Int) (wrap64 (x27_2+1)))=some r:=by have hy_:=qd;exact pH
               have qu:=am qd
               clear qd
               have H':=am H
               clear H
               have qk:0<=(x27_2:Int):=of_decide_eq_true pQ
               have qn:x27_2 < (l1.length:Int):=of_decide_eq_true pQ
               obtain ⟨ja,q5,qb⟩:=Kd.Zay HR1.o x27_2 qk qn
               cases q5
               replace qb:=(HB.o.cell (World.block_lt_of_cell? w _ qb)).trans qb
               replace qk:=eq_true qk
               replace qn:=eq_true qn
               obtain ⟨jc,q2,q7⟩:=Kd.Zh HO_5.o
               subst q7
               have ql:0<=((ji14):Int):=of_decide_eq_true pQ
               have qo:(ji14) < (x5_2.length:Int):=of_decide_eq_true pQ
               obtain ⟨jb,q6,qf⟩:=Kd.Zay (Kd.Zc HO_5.o).2.2 (ji14) ql qo
               cases q6
               replace ql:=eq_true ql
               replace qo:=eq_true qo
               have p17:0<=((ji14):Int):=of_decide_eq_true pQ
               have q17:((ji14):Int) < ((x5_2.length:Int):Int):=of_decide_eq_true pQ
               obtain ⟨go17,jd,qw,qy,gl17,cl17,HG17⟩:=Kd.Zin HO_5.o (by omega)
               (first|cases qw|(injection qw with ea_ en_ ec_;(first|subst ea_|(injection ea_ with ea_;subst ea_));subst ec_;clear en_))
               have GB17:=am qy
               have GG17:=am HG17
               clear qy gl17 HG17
               (first|simp only [add_plain] at qf|skip)
               obtain ⟨hx17_0,hf17_0⟩:=Kd.Zfk 0 HO_5.o ((ji14):Int) p17 q17
               replace p17:=eq_true p17
               replace q17:=eq_true q17
               have HP19:=Kd.Zjm HO_5.o ((ji14):Int) ((IntKind.u64.wrap ((IntKind.u64.wrap ((IntKind.u64.wrap ((IntKind.u64.wrap ((rd l0 x20_1)))*(IntKind.u64.wrap (rd l1 x27_2))))+(IntKind.u64.wrap (rd x5_2 (ji14)))))+x8_2)) % 4294967296)
               go_wp2_with (first|((with_reducible refine Zel (t:=85) (p:=55) rfl ?_);refine Zd8 (t:=85) (p:=55) (v:=?vo_w20) (w1:=(wr.setCell ⟨go17,((ji14):Int).toNat,none⟩ (.int .u32 ((IntKind.u64.wrap ((IntKind.u64.wrap ((IntKind.u64.wrap ((IntKind.u64.wrap ((rd l0 x20_1)))*(IntKind.u64.wrap (rd l1 x27_2))))+(IntKind.u64.wrap (rd x5_2 (ji14)))))+x8_2)) % 4294967296)))) ?hg ?ho ?hn ?hr ?_;(case ho=>rfl);(case hg=>rfl);(case hn=>rfl);(case hr=>first|(go_simp;done)|(go_simp;rfl));intro w20 hw;have hg:wr.grownBy w20 (some go17):=(by rw [hw];exact HP19.2);have hp_:Kd.R (Kd.int .u32) 85 w20 w.heap.size (fun _=>True) (.slice (some ⟨go17,0,none⟩) x5_2.length q2) qq:=(by rw [hw,qu.out];exact HP19.1);clear HP19;replace HO_5:=am (hp_);replace HB:=am ((by rw [hw];exact Zdn (HB.o) GB17.out:Below w.heap.size w w20));clear hg hw hp_))
               go_roundg k2
               case measure=>exact pM
               case rel=>exact ⟨(qq),((IntKind.u64.wrap ((IntKind.u64.wrap ((IntKind.u64.wrap ((IntKind.u64.wrap ((rd l0 x20_1)))*(IntKind.u64.wrap (rd l1 x27_2))))+(IntKind.u64.wrap (rd x5_2 (ji14)))))+x8_2)) / 4294967296),(wrap64 (x27_2+1)),(by first|rfl|(simp;done)|(simp only [<- hji14] <;> (first|rfl|simp))|(simp [*];done)),pR,(by first|exact H'|(have H_:=H'.out;simp only [<- hji3] at H_;exact ⟨H_⟩)|(refine ⟨?_⟩;have H_:=H'.out;simp only [<- hji3] at H_ ⊢;exact H_)|(have H_:=H'.out;simp only [<- hji14] at H_;exact ⟨H_⟩)|(refine ⟨?_⟩;have H_:=H'.out;simp only [<- hji14] at H_ ⊢;exact H_)),pJ,⟨by refine rp ?_;exact HO_5.o⟩,⟨pB⟩⟩
              ·cases H
             ·cases H
            ·cases H
           ·cases H
          ·obtain ⟨ji21,hji21⟩:∃ j_:Int,(wrap64 (x20_1+(l1.length:Int)))=j_:=⟨_,rfl⟩
           replace H:(if 0<=(ji21) then (if (ji21) < (x5_2.length:Int) then (Zag.l0 k2 l1 (x5_2.set ((ji21):Int).toNat ((x8_2) % 4294967296)) l0 (l0.length:Int) (wrap64 (x20_1+1))) else (none)) else (none))=some r:=by first|(rw [hji21] at H;exact H)|(simp only [hji21] at H ⊢;exact H)
           have hji21w:(IntKind.i64.wrap (x20_1+(l1.length:Int)))=ji21:=(Zb9 _).trans hji21
           replace H:=dI H
           rcases H with ⟨c22b0,H⟩|⟨_,H⟩
           ·replace H:=dI H
            rcases H with ⟨c23b0,H⟩|⟨_,H⟩
            ·obtain ⟨qr,qe⟩:∃ y_:List Int,y_=(x5_2.set ((ji21):Int).toNat ((x8_2) % 4294967296)):=⟨_,rfl⟩
             replace H:(Zag.l0 k2 l1 qr l0 (l0.length:Int) (wrap64 (x20_1+1)))=some r:=by have hy_:=qe;exact pH
             have qv:=am qe
             clear qe
             have H':=am H
             clear H
             have p24:0<=((ji21):Int):=of_decide_eq_true pQ
             have q24:((ji21):Int) < ((x5_2.length:Int):Int):=of_decide_eq_true pQ
             obtain ⟨go24,q3,qx,qz,gl24,cl24,HG24⟩:=Kd.Zin HO_5.o (by omega)
             (first|cases qx|(injection qx with ea_ en_ ec_;(first|subst ea_|(injection ea_ with ea_;subst ea_));subst ec_;clear en_))
             have GB24:=am qz
             have GG24:=am HG24
             clear qz gl24 HG24
             obtain ⟨hx24_0,hf24_0⟩:=Kd.Zfk 0 HO_5.o ((ji21):Int) p24 q24
             replace p24:=eq_true p24
             replace q24:=eq_true q24
             have HP25:=Kd.Zjm HO_5.o ((ji21):Int) ((x8_2) % 4294967296)
             go_wp2_with (first|((with_reducible refine Zel (t:=85) (p:=64) rfl ?_);refine Zd8 (t:=85) (p:=64) (v:=?vo_w26) (w1:=(wr.setCell ⟨go24,((ji21):Int).toNat,none⟩ (.int .u32 ((x8_2) % 4294967296)))) ?hg ?ho ?hn ?hr ?_;(case ho=>rfl);(case hg=>rfl);(case hn=>rfl);(case hr=>first|(go_simp;done)|(go_simp;rfl));intro w26 hw;have hg:wr.grownBy w26 (some go24):=(by rw [hw];exact HP25.2);have hp_:Kd.R (Kd.int .u32) 85 w26 w.heap.size (fun _=>True) (.slice (some ⟨go24,0,none⟩) x5_2.length q3) qr:=(by rw [hw,qv.out];exact HP25.1);clear HP25;replace HO_5:=am (hp_);replace HB:=am ((by rw [hw];exact Zdn (HB.o) GB24.out:Below w.heap.size w w26));clear hg hw hp_))
             go_roundg k2
             case measure=>exact pM
             case rel=>exact ⟨(qr),(wrap64 (x20_1+1)),pR,(by first|exact H'|(have H_:=H'.out;simp only [<- hji3] at H_;exact ⟨H_⟩)|(refine ⟨?_⟩;have H_:=H'.out;simp only [<- hji3] at H_ ⊢;exact H_)|(have H_:=H'.out;simp only [<- hji21] at H_;exact ⟨H_⟩)|(refine ⟨?_⟩;have H_:=H'.out;simp only [<- hji21] at H_ ⊢;exact H_)),pJ,⟨by refine rp ?_;exact HO_5.o⟩,⟨pB⟩⟩
            ·cases H
           ·cases H
       ·cases H
      ·cases H
     ·replace H:=ob H
      obtain ⟨qp,A27,H⟩:=H
      obtain rfl:=Option.some.inj H
      obtain ⟨qh,qi,q8⟩:=Kd.Zh HO_5.o
      subst q8
      go_wp2_with (first|(refine gL (some 67) Tryz.func132 #[.slice qh x5_1.length qi] (h:=?_);(with_reducible refine (Zz.calls k1 (fun k_=>some k_=(.slice qh x5_1.length qi:Value).ownBlock) (.slice qh x5_1.length qi) x5_1 qp w _ ?side1 ?side2 A27.o).mono ?_);(case side1=>exact pB);(case side2=>exact Kd.Zby rfl HO_5.o);rintro e w29 ⟨je,rfl,ho0,hb,hkp⟩;refine ⟨_,rfl,?_⟩;have qt:=am (Kd.Zo (ok':=fun k_=>True) ho0 (fun k_ hk_=>trivial));replace HB:=am hb;clear HO_5))
      go_ret
      exact ⟨_,by first|rfl|(simp [Zap,Zaq] <;> rfl)|(simp only [<- hji3];first|rfl|(simp [Zap,Zaq] <;> rfl))|(simp [*,Zap,Zaq] <;> rfl),by refine rp ?_;exact qt.o,pB⟩
  ·cases H
 ·cases H
def Zcl.f (a0:Int) (a1:Int) (a2:Int):Option (Int × Int):=some ((IntKind.u64.wrap ((IntKind.u64.wrap ((IntKind.u64.wrap (a0))+(IntKind.u64.wrap (a1))))+(IntKind.u64.wrap (a2)))) % 4294967296,((IntKind.u64.wrap ((IntKind.u64.wrap ((IntKind.u64.wrap (a0))+(IntKind.u64.wrap (a1))))+(IntKind.u64.wrap (a2)))) / 4294967296) % 4294967296)
theorem Zcl.calls (a0:Int) (a1:Int) (a2:Int) (r1:Int) (r2:Int) (w:World) (h:Zcl.f a0 a1 a2=some (r1,r2)) :
  Calls Tryz.prog 164 #[.int .u32 a0,.int .u32 a1,.int .u32 a2] w fun e w'=>e=.returned (.tuple #[.int .u32 r1,.int .u32 r2])/\Drawn0 w w':=by
 have H:(some ((IntKind.u64.wrap ((IntKind.u64.wrap ((IntKind.u64.wrap (a0))+(IntKind.u64.wrap (a1))))+(IntKind.u64.wrap (a2)))) % 4294967296,((IntKind.u64.wrap ((IntKind.u64.wrap ((IntKind.u64.wrap (a0))+(IntKind.u64.wrap (a1))))+(IntKind.u64.wrap (a2)))) / 4294967296) % 4294967296))=some (r1,r2):=h
 clear h
 simp only [Option.some.injEq,Prod.mk.injEq] at H
 obtain ⟨rfl,rfl⟩:=H
 go_enter Tryz.func164,Tryz.ntmps164
 go_wp2
 go_ret2
 exact ⟨pR,pD⟩
mutual
def Zaf.l0:Nat->List Int->List Int->Int->List Int->Int->Int->Option (List Int)
 | 0,_,_,_,_,_,_=>none
 | k+1,x1,x5,x6,x23,x24,x25=>if x25 < x24 then (if 0<=x25 then (if x25 < (x23.length:Int) then (if x25 < (x1.length:Int) then ((Zcl.f (rd x23 x25) (rd x1 x25) x6).bind fun q2=>(if x5.length < 35184372088832 then (Zaf.l0 k x1 (x5 ++ [q2.1]) q2.2 x23 x24 (wrap64 (x25+1))) else (none))) else ((Zcl.f (rd x23 x25) 0 x6).bind fun q3=>(if x5.length < 35184372088832 then (Zaf.l0 k x1 (x5 ++ [q3.1]) q3.2 x23 x24 (wrap64 (x25+1))) else (none)))) else (none)) else (none)) else (if x5.length < 35184372088832 then ((Zz.f k (x5 ++ [x6])).bind fun qs=>(some qs)) else (none))
def Zaf.l2:Nat->List Int->List Int->Int->List Int->Int->Int->Option (List Int)
 | 0,_,_,_,_,_,_=>none
 | k+1,x1,x5,x6,x23,x24,x25=>if x25 < x24 then (if 0<=x25 then (if x25 < (x23.length:Int) then (if x25 < (x1.length:Int) then ((Zcl.f (rd x23 x25) (rd x1 x25) x6).bind fun q4=>(if x5.length < 35184372088832 then (Zaf.l2 k x1 (x5 ++ [q4.1]) q4.2 x23 x24 (wrap64 (x25+1))) else (none))) else ((Zcl.f (rd x23 x25) 0 x6).bind fun q5=>(if x5.length < 35184372088832 then (Zaf.l2 k x1 (x5 ++ [q5.1]) q5.2 x23 x24 (wrap64 (x25+1))) else (none)))) else (none)) else (none)) else (if x5.length < 35184372088832 then ((Zz.f k (x5 ++ [x6])).bind fun qt=>(some qt)) else (none))
end
def Zaf.f (k:Nat) (l0:List Int) (l1:List Int):Option (List Int):=if (l0.length:Int) < (l1.length:Int) then (if 0<=(wrap64 ((l1.length:Int)+1)) then (if (wrap64 ((l1.length:Int)+1):Int).toNat<=70368744177664 then (Zaf.l0 k l0 (List.replicate 0 0) 0 l1 (l1.length:Int) 0) else (none)) else (none)) else (if 0<=(wrap64 ((l0.length:Int)+1)) then (if (wrap64 ((l0.length:Int)+1):Int).toNat<=70368744177664 then (Zaf.l2 k l1 (List.replicate 0 0) 0 l0 (l0.length:Int) 0) else (none)) else (none))
theorem Zaf.calls (k:Nat) (A0:Option Addr) (c0:Nat) (l0:List Int) (A1:Option Addr) (c1:Nat) (l1:List Int) (r:List Int) (w:World) (hr0:Kd.C (Kd.int .u32) w A0 l0.length l0) (hc0:l0.length<=c0) (hr1:Kd.C (Kd.int .u32) w A1 l1.length l1) (hc1:l1.length<=c1) (h:Zaf.f k l0 l1=some r) :
  Calls Tryz.prog 131 #[.slice A0 l0.length c0,.slice A1 l1.length c1] w fun e w' => ∃ v0_:Value,e=.returned (v0_)/\Kd.R (Kd.int .u32) 85 w' w.heap.size (fun _=>True) v0_ r/\Below w.heap.size w w':=by
 have HR0:=am hr0
 have HC0:=am hc0
 clear hr0 hc0
 have HR1:=am hr1
 have HC1:=am hc1
 clear hr1 hc1
 have HB:=am (Below.refl w.heap.size w)
 have H:(if (l0.length:Int) < (l1.length:Int) then (if 0<=(wrap64 ((l1.length:Int)+1)) then (if (wrap64 ((l1.length:Int)+1):Int).toNat<=70368744177664 then (Zaf.l0 k l0 (List.replicate 0 0) 0 l1 (l1.length:Int) 0) else (none)) else (none)) else (if 0<=(wrap64 ((l0.length:Int)+1)) then (if (wrap64 ((l0.length:Int)+1):Int).toNat<=70368744177664 then (Zaf.l2 k l1 (List.replicate 0 0) 0 l0 (l0.length:Int) 0) else (none)) else (none)))=some r:=h
 clear h
 by_cases c3:(l0.length:Int) < (l1.length:Int)
 ·rw [if_pos c3] at H
  have c3b0:decide ((l0.length:Int) < (l1.length:Int))=true:=decide_eq_true c3
  have c3b1:decide (l0.length < l1.length)=true:=decide_eq_true (Int.ofNat_lt.mp c3)
  clear c3
  obtain ⟨ji4,hji4⟩:∃ j_:Int,(wrap64 ((l1.length:Int)+1))=j_:=⟨_,rfl⟩
  replace H:(if 0<=(ji4) then (if (ji4:Int).toNat<=70368744177664 then (Zaf.l0 k l0 (List.replicate 0 0) 0 l1 (l1.length:Int) 0) else (none)) else (none))=some r:=by first|(rw [hji4] at H;exact H)|(simp only [hji4] at H ⊢;exact H)
  have hji4w:(IntKind.i64.wrap ((l1.length:Int)+1))=ji4:=(Zb9 _).trans hji4
  replace H:=iI H
  rcases H with ⟨c5b0,c5b1,H⟩|⟨_,_,H⟩
  ·replace H:=iI H
   rcases H with ⟨c6b0,c6b1,H⟩|⟨_,_,H⟩
   ·obtain ⟨j0,qk⟩:∃ y_:List Int,y_=(List.replicate 0 0):=⟨_,rfl⟩
    replace H:(Zaf.l0 k l0 j0 0 l1 (l1.length:Int) 0)=some r:=by have hy_:=qk;exact pH
    have q0:=am qk
    clear qk
    have H':=am H
    clear H
    go_enter Tryz.func131,Tryz.ntmps131
    go_wp2_with (first|((with_reducible refine gd 22 ?_);refine Zio (Kd.int .u32) _ 85 rfl (N:=22) rfl 134 _ _ rfl ji4 rfl rfl Tryz.underlying134 (.int .u32 0) 4 info85 (by omega) 0 (ok:=fun _=>True) (okp:=fun _=>True) (fun _ hk=>hk) trivial (of_decide_eq_true pQ) (Nat.le_trans (Nat.mul_le_mul_right _ (of_decide_eq_true pQ:(ji4:Int).toNat<=70368744177664)) (by omega)) (Below.refl _ _) (Nat.le_refl _) ?_;intro qac w7 ho8 hb hg_ hnew_;clear hg_ hnew_;(first|rw [<- q0.out] at ho8|(simp only [Int.reduceToNat] at ho8;rw [<- q0.out] at ho8));have jk:=am (Kd.Zn ho8 (Zb pB));replace HB:=bS hb;clear hb ho8))
    go_loopg [5,6,25] k (fun kq v5 v6 v25 w' => ∃ (x5_1:List Int) (x6_1:Int) (x25_1:Int),v6=.int .u32 x6_1/\v25=.int .i64 x25_1/\Aside0 (Zaf.l0 kq l0 x5_1 x6_1 l1 (l1.length:Int) x25_1=some r)/\Aside0 (kq<=k)/\Aside0 (Kd.R (Kd.int .u32) 85 w' w.heap.size (fun _=>True) v5 x5_1)/\Aside0 (Below w.heap.size w w'))
    case atStart=>exact ⟨(j0),(0),(0),pR,pR,H',⟨Nat.le_refl _⟩,⟨by refine rp ?_;exact jk.o⟩,⟨pB⟩⟩
    case round =>
     clear H'
     obtain ⟨x5_1,x6_1,x25_1,rfl,rfl,HA,HK1,HO_5,HB⟩:=hrel
     cases gk with
     | zero=>exact absurd HA.out (by simp [Zaf.l0])
     | succ k1 =>
      have H:=HA.out
      clear HA
      simp only [Zaf.l0] at H
      replace H:=dI H
      rcases H with ⟨c9b0,H⟩|⟨c9b0,H⟩
      ·replace H:=dI H
       rcases H with ⟨c10b0,H⟩|⟨_,H⟩
       ·replace H:=dI H
        rcases H with ⟨c11b0,H⟩|⟨_,H⟩
        ·replace H:=dI H
         rcases H with ⟨c12b0,H⟩|⟨c12b0,H⟩
         ·replace H:=ob H
          obtain ⟨⟨qw,jg⟩,A13,H⟩:=H;(try dsimp only at H)
          by_cases c14:x5_1.length < 35184372088832
          ·rw [if_pos c14] at H
           have LMc14:=am c14
           clear c14
           obtain ⟨j1,ql⟩:∃ y_:List Int,y_=(x5_1 ++ [qw]):=⟨_,rfl⟩
           replace H:(Zaf.l0 k1 l0 j1 jg l1 (l1.length:Int) (wrap64 (x25_1+1)))=some r:=by have hy_:=ql;exact pH
           have js:=am ql
           clear ql
           have H':=am H
           clear H
           have qe:0<=(x25_1:Int):=of_decide_eq_true pQ
           have qg:x25_1 < (l1.length:Int):=of_decide_eq_true pQ
           obtain ⟨jy,ja,qa⟩:=Kd.Zay HR1.o x25_1 qe qg
           cases ja
           replace qa:=(HB.o.cell (World.block_lt_of_cell? w _ qa)).trans qa
           replace qe:=eq_true qe
           replace qg:=eq_true qg
           have jc:0<=(x25_1:Int):=of_decide_eq_true pQ
           have je:x25_1 < (l0.length:Int):=of_decide_eq_true pQ
           obtain ⟨qaa,j6,qc⟩:=Kd.Zay HR0.o x25_1 jc je
           cases j6
           replace qc:=(HB.o.cell (World.block_lt_of_cell? w _ qc)).trans qc
           replace jc:=eq_true jc
           replace je:=eq_true je
           go_wp2_with (first|(refine gL (some 42) Tryz.func164 #[.int .u32 (rd l1 x25_1),.int .u32 (rd l0 x25_1),.int .u32 x6_1] (h:=?_);(with_reducible refine (Zcl.calls (rd l1 x25_1) (rd l0 x25_1) x6_1 qw jg _ A13.o).mono ?_);rintro e w' ⟨rfl,⟨nd,rfl⟩⟩;refine ⟨_,rfl,?_⟩)|((with_reducible refine Zar (b:=.append) (xs:=#[.tmp 45,.tmp 47]) rfl ?_);at_builtin;refine Kd.Zb3 (Kd.int .u32) (w0:=w) w.heap.size rfl (.tmp 45) (.tmp 47) 134 85 (.int .u32 0) 4 rfl Tryz.underlying134 info85 rfl (by decide) (by omega) u5 x5_1 qw [.int .u32 qw] (fun _=>True) (fun _=>False) rfl rfl ?aP (fun _ hk=>hk.elim) ?aF ?aO ?aB ?aS ?aL ?_;(case aP=>exact rfl);(case aB=>exact pB);(case aF=>exact (fun _ _=>trivial));(case aO=>exact (Kd.Za HO_5.o pl));(case aS=>exact (Zb pB));(case aL=>have := LMc14.o;omega);intro qad w15 ho hb hg hat;rw [<- js.out] at ho;have jl:=am ho;replace HB:=am hb;clear HO_5 ho hb hg hat))
           go_roundg k1
           case measure=>exact pM
           case rel=>exact ⟨(j1),(jg),(wrap64 (x25_1+1)),pR,pR,(by first|exact H'|(have H_:=H'.out;simp only [<- hji4] at H_;exact ⟨H_⟩)|(refine ⟨?_⟩;have H_:=H'.out;simp only [<- hji4] at H_ ⊢;exact H_)),pJ,⟨by refine rp ?_;exact jl.o⟩,⟨pB⟩⟩
          ·rw [if_neg c14] at H
           cases H
         ·replace H:=ob H
          obtain ⟨⟨qx,jh⟩,A16,H⟩:=H;(try dsimp only at H)
          by_cases c17:x5_1.length < 35184372088832
          ·rw [if_pos c17] at H
           have LMc17:=am c17
           clear c17
           obtain ⟨j2,qm⟩:∃ y_:List Int,y_=(x5_1 ++ [qx]):=⟨_,rfl⟩
           replace H:(Zaf.l0 k1 l0 j2 jh l1 (l1.length:Int) (wrap64 (x25_1+1)))=some r:=by have hy_:=qm;exact pH
           have jt:=am qm
           clear qm
           have H':=am H
           clear H
           have qe:0<=(x25_1:Int):=of_decide_eq_true pQ
           have qg:x25_1 < (l1.length:Int):=of_decide_eq_true pQ
           obtain ⟨jy,ja,qa⟩:=Kd.Zay HR1.o x25_1 qe qg
           cases ja
           replace qa:=(HB.o.cell (World.block_lt_of_cell? w _ qa)).trans qa
           replace qe:=eq_true qe
           replace qg:=eq_true qg
           go_wp2_with (first|(refine gL (some 42) Tryz.func164 #[.int .u32 (rd l1 x25_1),.int .u32 0,.int .u32 x6_1] (h:=?_);(with_reducible refine (Zcl.calls (rd l1 x25_1) 0 x6_1 qx jh _ A16.o).mono ?_);rintro e w' ⟨rfl,⟨nd,rfl⟩⟩;refine ⟨_,rfl,?_⟩)|((with_reducible refine Zar (b:=.append) (xs:=#[.tmp 45,.tmp 47]) rfl ?_);at_builtin;refine Kd.Zb3 (Kd.int .u32) (w0:=w) w.heap.size rfl (.tmp 45) (.tmp 47) 134 85 (.int .u32 0) 4 rfl Tryz.underlying134 info85 rfl (by decide) (by omega) u5 x5_1 qx [.int .u32 qx] (fun _=>True) (fun _=>False) rfl rfl ?aP (fun _ hk=>hk.elim) ?aF ?aO ?aB ?aS ?aL ?_;(case aP=>exact rfl);(case aB=>exact pB);(case aF=>exact (fun _ _=>trivial));(case aO=>exact (Kd.Za HO_5.o pl));(case aS=>exact (Zb pB));(case aL=>have := LMc17.o;omega);intro qae w18 ho hb hg hat;rw [<- jt.out] at ho;have jm:=am ho;replace HB:=am hb;clear HO_5 ho hb hg hat))
           go_roundg k1
           case measure=>exact pM
           case rel=>exact ⟨(j2),(jh),(wrap64 (x25_1+1)),pR,pR,(by first|exact H'|(have H_:=H'.out;simp only [<- hji4] at H_;exact ⟨H_⟩)|(refine ⟨?_⟩;have H_:=H'.out;simp only [<- hji4] at H_ ⊢;exact H_)),pJ,⟨by refine rp ?_;exact jm.o⟩,⟨pB⟩⟩
          ·rw [if_neg c17] at H
           cases H
        ·cases H
       ·cases H
      ·by_cases c19:x5_1.length < 35184372088832
       ·rw [if_pos c19] at H
        have LMc19:=am c19
        clear c19
        obtain ⟨qu,qn⟩:∃ y_:List Int,y_=(x5_1 ++ [x6_1]):=⟨_,rfl⟩
        replace H:((Zz.f k1 qu).bind fun qs=>(some qs))=some r:=by have hy_:=qn;exact pH
        have ju:=am qn
        clear qn
        replace H:=ob H
        obtain ⟨qs,A20,H⟩:=H
        obtain rfl:=Option.some.inj H
        go_wp2_with (first|((with_reducible refine Zar (b:=.append) (xs:=#[.tmp 51,.tmp 53]) rfl ?_);at_builtin;refine Kd.Zb3 (Kd.int .u32) (w0:=w) w.heap.size rfl (.tmp 51) (.tmp 53) 134 85 (.int .u32 0) 4 rfl Tryz.underlying134 info85 rfl (by decide) (by omega) u5 x5_1 x6_1 [.int .u32 x6_1] (fun _=>True) (fun _=>False) rfl rfl ?aP (fun _ hk=>hk.elim) ?aF ?aO ?aB ?aS ?aL ?_;(case aP=>exact rfl);(case aB=>exact pB);(case aF=>exact (fun _ _=>trivial));(case aO=>exact (Kd.Za HO_5.o pl));(case aS=>exact (Zb pB));(case aL=>have := LMc19.o;omega);intro qaf w21 ho hb hg hat;rw [<- ju.out] at ho;have qi:=am ho;replace HB:=am hb;clear HO_5 ho hb hg hat;obtain ⟨q6,q8,j8⟩:=Kd.Zh qi.o;subst j8)|(refine gL (some 55) Tryz.func132 #[.slice q6 qu.length q8] (h:=?_);(with_reducible refine (Zz.calls k1 (fun k_=>some k_=(.slice q6 qu.length q8:Value).ownBlock) (.slice q6 qu.length q8) qu qs w _ ?side1 ?side2 A20.o).mono ?_);(case side1=>exact pB);(case side2=>exact Kd.Zby rfl qi.o);rintro e w23 ⟨qag,rfl,ho0,hb,hkp⟩;refine ⟨_,rfl,?_⟩;have jn:=am (Kd.Zo (ok':=fun k_=>True) ho0 (fun k_ hk_=>trivial));replace HB:=am hb;clear qi))
        go_ret
        exact ⟨_,by first|rfl|(simp [Zap,Zaq] <;> rfl)|(simp only [<- hji4];first|rfl|(simp [Zap,Zaq] <;> rfl))|(simp [*,Zap,Zaq] <;> rfl),by refine rp ?_;exact jn.o,pB⟩
       ·rw [if_neg c19] at H
        cases H
   ·cases H
  ·cases H
 ·rw [if_neg c3] at H
  have c3b0:decide ((l0.length:Int) < (l1.length:Int))=false:=decide_eq_false c3
  have c3b1:decide (l0.length < l1.length)=false:=decide_eq_false (fun h=>c3 (Int.ofNat_lt.mpr h))
  clear c3
  obtain ⟨ji24,hji24⟩:∃ j_:Int,(wrap64 ((l0.length:Int)+1))=j_:=⟨_,rfl⟩
  replace H:(if 0<=(ji24) then (if (ji24:Int).toNat<=70368744177664 then (Zaf.l2 k l1 (List.replicate 0 0) 0 l0 (l0.length:Int) 0) else (none)) else (none))=some r:=by first|(rw [hji24] at H;exact H)|(simp only [hji24] at H ⊢;exact H)
  have hji24w:(IntKind.i64.wrap ((l0.length:Int)+1))=ji24:=(Zb9 _).trans hji24
  replace H:=iI H
  rcases H with ⟨c25b0,c25b1,H⟩|⟨_,_,H⟩
  ·replace H:=iI H
   rcases H with ⟨c26b0,c26b1,H⟩|⟨_,_,H⟩
   ·obtain ⟨j3,qo⟩:∃ y_:List Int,y_=(List.replicate 0 0):=⟨_,rfl⟩
    replace H:(Zaf.l2 k l1 j3 0 l0 (l0.length:Int) 0)=some r:=by have hy_:=qo;exact pH
    have q1:=am qo
    clear qo
    have H':=am H
    clear H
    go_enter Tryz.func131,Tryz.ntmps131
    go_wp2_with (first|((with_reducible refine gd 22 ?_);refine Zio (Kd.int .u32) _ 85 rfl (N:=22) rfl 134 _ _ rfl ji24 rfl rfl Tryz.underlying134 (.int .u32 0) 4 info85 (by omega) 0 (ok:=fun _=>True) (okp:=fun _=>True) (fun _ hk=>hk) trivial (of_decide_eq_true pQ) (Nat.le_trans (Nat.mul_le_mul_right _ (of_decide_eq_true pQ:(ji24:Int).toNat<=70368744177664)) (by omega)) (Below.refl _ _) (Nat.le_refl _) ?_;intro qah w27 ho28 hb hg_ hnew_;clear hg_ hnew_;(first|rw [<- q1.out] at ho28|(simp only [Int.reduceToNat] at ho28;rw [<- q1.out] at ho28));have jo:=am (Kd.Zn ho28 (Zb pB));replace HB:=bS hb;clear hb ho28))
    go_loopg [5,6,25] k (fun kq v5 v6 v25 w' => ∃ (x5_1:List Int) (x6_1:Int) (x25_1:Int),v6=.int .u32 x6_1/\v25=.int .i64 x25_1/\Aside0 (Zaf.l2 kq l1 x5_1 x6_1 l0 (l0.length:Int) x25_1=some r)/\Aside0 (kq<=k)/\Aside0 (Kd.R (Kd.int .u32) 85 w' w.heap.size (fun _=>True) v5 x5_1)/\Aside0 (Below w.heap.size w w'))
    case atStart=>exact ⟨(j3),(0),(0),pR,pR,H',⟨Nat.le_refl _⟩,⟨by refine rp ?_;exact jo.o⟩,⟨pB⟩⟩
    case round =>
     clear H'
     obtain ⟨x5_1,x6_1,x25_1,rfl,rfl,HA,HK1,HO_5,HB⟩:=hrel
     cases gk with
     | zero=>exact absurd HA.out (by simp [Zaf.l2])
     | succ k1 =>
      have H:=HA.out
      clear HA
      simp only [Zaf.l2] at H
      replace H:=dI H
      rcases H with ⟨c29b0,H⟩|⟨c29b0,H⟩
      ·replace H:=dI H
       rcases H with ⟨c30b0,H⟩|⟨_,H⟩
       ·replace H:=dI H
        rcases H with ⟨c31b0,H⟩|⟨_,H⟩
        ·replace H:=dI H
         rcases H with ⟨c32b0,H⟩|⟨c32b0,H⟩
         ·replace H:=ob H
          obtain ⟨⟨qy,ji⟩,A33,H⟩:=H;(try dsimp only at H)
          by_cases c34:x5_1.length < 35184372088832
          ·rw [if_pos c34] at H
           have LMc34:=am c34
           clear c34
           obtain ⟨j4,qp⟩:∃ y_:List Int,y_=(x5_1 ++ [qy]):=⟨_,rfl⟩
           replace H:(Zaf.l2 k1 l1 j4 ji l0 (l0.length:Int) (wrap64 (x25_1+1)))=some r:=by have hy_:=qp;exact pH
           have jv:=am qp
           clear qp
           have H':=am H
           clear H
           have qf:0<=(x25_1:Int):=of_decide_eq_true pQ
           have qh:x25_1 < (l0.length:Int):=of_decide_eq_true pQ
           obtain ⟨jz,jb,qb⟩:=Kd.Zay HR0.o x25_1 qf qh
           cases jb
           replace qb:=(HB.o.cell (World.block_lt_of_cell? w _ qb)).trans qb
           replace qf:=eq_true qf
           replace qh:=eq_true qh
           have jd:0<=(x25_1:Int):=of_decide_eq_true pQ
           have jf:x25_1 < (l1.length:Int):=of_decide_eq_true pQ
           obtain ⟨qab,j7,qd⟩:=Kd.Zay HR1.o x25_1 jd jf
           cases j7
           replace qd:=(HB.o.cell (World.block_lt_of_cell? w _ qd)).trans qd
           replace jd:=eq_true jd
           replace jf:=eq_true jf
           go_wp2_with (first|(refine gL (some 42) Tryz.func164 #[.int .u32 (rd l0 x25_1),.int .u32 (rd l1 x25_1),.int .u32 x6_1] (h:=?_);(with_reducible refine (Zcl.calls (rd l0 x25_1) (rd l1 x25_1) x6_1 qy ji _ A33.o).mono ?_);rintro e w' ⟨rfl,⟨nd,rfl⟩⟩;refine ⟨_,rfl,?_⟩)|((with_reducible refine Zar (b:=.append) (xs:=#[.tmp 45,.tmp 47]) rfl ?_);at_builtin;refine Kd.Zb3 (Kd.int .u32) (w0:=w) w.heap.size rfl (.tmp 45) (.tmp 47) 134 85 (.int .u32 0) 4 rfl Tryz.underlying134 info85 rfl (by decide) (by omega) u5 x5_1 qy [.int .u32 qy] (fun _=>True) (fun _=>False) rfl rfl ?aP (fun _ hk=>hk.elim) ?aF ?aO ?aB ?aS ?aL ?_;(case aP=>exact rfl);(case aB=>exact pB);(case aF=>exact (fun _ _=>trivial));(case aO=>exact (Kd.Za HO_5.o pl));(case aS=>exact (Zb pB));(case aL=>have := LMc34.o;omega);intro qai w35 ho hb hg hat;rw [<- jv.out] at ho;have jp:=am ho;replace HB:=am hb;clear HO_5 ho hb hg hat))
           go_roundg k1
           case measure=>exact pM
           case rel=>exact ⟨(j4),(ji),(wrap64 (x25_1+1)),pR,pR,(by first|exact H'|(have H_:=H'.out;simp only [<- hji24] at H_;exact ⟨H_⟩)|(refine ⟨?_⟩;have H_:=H'.out;simp only [<- hji24] at H_ ⊢;exact H_)),pJ,⟨by refine rp ?_;exact jp.o⟩,⟨pB⟩⟩
          ·rw [if_neg c34] at H
           cases H
         ·replace H:=ob H
          obtain ⟨⟨qz,jj⟩,A36,H⟩:=H;(try dsimp only at H)
          by_cases c37:x5_1.length < 35184372088832
          ·rw [if_pos c37] at H
           have LMc37:=am c37
           clear c37
           obtain ⟨j5,qq⟩:∃ y_:List Int,y_=(x5_1 ++ [qz]):=⟨_,rfl⟩
           replace H:(Zaf.l2 k1 l1 j5 jj l0 (l0.length:Int) (wrap64 (x25_1+1)))=some r:=by have hy_:=qq;exact pH
           have jw:=am qq
           clear qq
           have H':=am H
           clear H
           have qf:0<=(x25_1:Int):=of_decide_eq_true pQ
           have qh:x25_1 < (l0.length:Int):=of_decide_eq_true pQ
           obtain ⟨jz,jb,qb⟩:=Kd.Zay HR0.o x25_1 qf qh
           cases jb
           replace qb:=(HB.o.cell (World.block_lt_of_cell? w _ qb)).trans qb
           replace qf:=eq_true qf
           replace qh:=eq_true qh
           go_wp2_with (first|(refine gL (some 42) Tryz.func164 #[.int .u32 (rd l0 x25_1),.int .u32 0,.int .u32 x6_1] (h:=?_);(with_reducible refine (Zcl.calls (rd l0 x25_1) 0 x6_1 qz jj _ A36.o).mono ?_);rintro e w' ⟨rfl,⟨nd,rfl⟩⟩;refine ⟨_,rfl,?_⟩)|((with_reducible refine Zar (b:=.append) (xs:=#[.tmp 45,.tmp 47]) rfl ?_);at_builtin;refine Kd.Zb3 (Kd.int .u32) (w0:=w) w.heap.size rfl (.tmp 45) (.tmp 47) 134 85 (.int .u32 0) 4 rfl Tryz.underlying134 info85 rfl (by decide) (by omega) u5 x5_1 qz [.int .u32 qz] (fun _=>True) (fun _=>False) rfl rfl ?aP (fun _ hk=>hk.elim) ?aF ?aO ?aB ?aS ?aL ?_;(case aP=>exact rfl);(case aB=>exact pB);(case aF=>exact (fun _ _=>trivial));(case aO=>exact (Kd.Za HO_5.o pl));(case aS=>exact (Zb pB));(case aL=>have := LMc37.o;omega);intro qaj w38 ho hb hg hat;rw [<- jw.out] at ho;have jq:=am ho;replace HB:=am hb;clear HO_5 ho hb hg hat))
           go_roundg k1
           case measure=>exact pM
           case rel=>exact ⟨(j5),(jj),(wrap64 (x25_1+1)),pR,pR,(by first|exact H'|(have H_:=H'.out;simp only [<- hji24] at H_;exact ⟨H_⟩)|(refine ⟨?_⟩;have H_:=H'.out;simp only [<- hji24] at H_ ⊢;exact H_)),pJ,⟨by refine rp ?_;exact jq.o⟩,⟨pB⟩⟩
          ·rw [if_neg c37] at H
           cases H
        ·cases H
       ·cases H
      ·by_cases c39:x5_1.length < 35184372088832
       ·rw [if_pos c39] at H
        have LMc39:=am c39
        clear c39
        obtain ⟨qv,qr⟩:∃ y_:List Int,y_=(x5_1 ++ [x6_1]):=⟨_,rfl⟩
        replace H:((Zz.f k1 qv).bind fun qt=>(some qt))=some r:=by have hy_:=qr;exact pH
        have jx:=am qr
        clear qr
        replace H:=ob H
        obtain ⟨qt,A40,H⟩:=H
        obtain rfl:=Option.some.inj H
        go_wp2_with (first|((with_reducible refine Zar (b:=.append) (xs:=#[.tmp 51,.tmp 53]) rfl ?_);at_builtin;refine Kd.Zb3 (Kd.int .u32) (w0:=w) w.heap.size rfl (.tmp 51) (.tmp 53) 134 85 (.int .u32 0) 4 rfl Tryz.underlying134 info85 rfl (by decide) (by omega) u5 x5_1 x6_1 [.int .u32 x6_1] (fun _=>True) (fun _=>False) rfl rfl ?aP (fun _ hk=>hk.elim) ?aF ?aO ?aB ?aS ?aL ?_;(case aP=>exact rfl);(case aB=>exact pB);(case aF=>exact (fun _ _=>trivial));(case aO=>exact (Kd.Za HO_5.o pl));(case aS=>exact (Zb pB));(case aL=>have := LMc39.o;omega);intro qak w41 ho hb hg hat;rw [<- jx.out] at ho;have qj:=am ho;replace HB:=am hb;clear HO_5 ho hb hg hat;obtain ⟨q7,q9,j9⟩:=Kd.Zh qj.o;subst j9)|(refine gL (some 55) Tryz.func132 #[.slice q7 qv.length q9] (h:=?_);(with_reducible refine (Zz.calls k1 (fun k_=>some k_=(.slice q7 qv.length q9:Value).ownBlock) (.slice q7 qv.length q9) qv qt w _ ?side1 ?side2 A40.o).mono ?_);(case side1=>exact pB);(case side2=>exact Kd.Zby rfl qj.o);rintro e w43 ⟨qal,rfl,ho0,hb,hkp⟩;refine ⟨_,rfl,?_⟩;have jr:=am (Kd.Zo (ok':=fun k_=>True) ho0 (fun k_ hk_=>trivial));replace HB:=am hb;clear qj))
        go_ret
        exact ⟨_,by first|rfl|(simp [Zap,Zaq] <;> rfl)|(simp only [<- hji24];first|rfl|(simp [Zap,Zaq] <;> rfl))|(simp [*,Zap,Zaq] <;> rfl),by refine rp ?_;exact jr.o,pB⟩
       ·rw [if_neg c39] at H
        cases H
   ·cases H
  ·cases H
end YtjbjkmccfocikaaGreatDoor.B
end
section
namespace YtjbjkmccfocikaaGreatDoor.P
open Go.RowKit YtjbjkmccfocikaaGreatDoor.B YtjbjkmccfocikaaGreatDoorW.PrintWords YtjbjkmccfocikaaGreatDoorW.PrintLast YtjbjkmccfocikaaGreatDoorW.PrintMore YtjbjkmccfocikaaGreatDoor.P.Nm
theorem Zeg (n:Nat):(limbs n).length<=nd n:=by
 refine Zh0 (b:=4294967296) (by omega) ?_
 rw [Zgl]
 have h1:=Zg5 n
 have h2:10 ^ nd n<=4294967296 ^ nd n:=Nat.pow_le_pow_left (by decide) _
 exact_mod_cast (Nat.lt_of_lt_of_le h1 h2)
theorem Zpv {n:Nat} (h:limbs n=[]):n=0:=Zme (b:=4294967296) (by omega) h
theorem Zdu {n:Nat} (h:n ≠ 0):limbs n ≠ []:=fun e=>h (Zpv e)
theorem Zgf {n k:Nat} (h:n < 4294967296 ^ k):(limbs n).length<=k :=
 Zh0 (b:=4294967296) (by omega) (by rw [Zgl];exact_mod_cast h)
theorem Zkb (n:Nat):n < 4294967296 ^ (limbs n).length:=Zh1 (b:=4294967296) (by omega) n
theorem pwL (k:Nat):pw 4294967296 k=((4294967296 ^ k:Nat):Int):=Zgl 4294967296 k
theorem Zgi {n:Nat} (h:nd n<=1000000):okW (limbs n)=true:=Ze0.2 ⟨Nat.le_trans (Zeg n) h,Zdf n,Zkc n⟩
theorem dgL {l:List Int} (h:Dg 4294967296 l) (i:Nat):∃ x:Nat,l.getD i 0=(x:Int)/\x < 4294967296:=by
 have := Ziv (by omega) h i
 exact ⟨(l.getD i 0).toNat,by omega,by omega⟩
theorem u64n {m:Nat} (h:m < 18446744073709551616):IntKind.u64.wrap (m:Int)=(m:Int):=by simp [IntKind.wrap,IntKind.bits,IntKind.signed];omega
theorem u64p {a b:Nat} (h:a+b < 18446744073709551616):IntKind.u64.wrap ((a:Int)+(b:Int))=((a+b:Nat):Int):=by rw [<- Int.natCast_add,u64n h]
theorem u64k {a b c:Nat} (hc:a*b=c) (h:c < 18446744073709551616):IntKind.u64.wrap ((a:Int)*(b:Int))=(c:Int):=by rw [<- Int.natCast_mul,hc,u64n h]
theorem ediv32 (m:Nat):(m:Int) / 4294967296=((m / 4294967296:Nat):Int):=by omega
theorem emod32 (m:Nat):(m:Int) % 4294967296=((m % 4294967296:Nat):Int):=by omega
theorem Zjc:∀ (n:Nat) (l:List Int),l.length=n->n<=4611686018427387904->Tells (fun k=>Zz.l0 k l) (trimL l)
 | 0,l,hn,_=>by
  obtain rfl:=List.eq_nil_of_length_eq_zero hn
  refine Tells.succ ?_
  exact Tells.pure _
 | n+1,l,hn,hb=>by
  obtain ⟨l',x,rfl⟩:=Zf5 (l:=l) (by intro e;subst e;simp at hn)
  have hl':l'.length=n:=by simpa using hn
  have ih:=Zjc n l' hl' (by omega)
  have hlen:((l' ++ [x]).length:Int) - 1=(l'.length:Int):=by rw [hn,hl'];omega
  have c1:((l' ++ [x]).length:Int) > 0:=by rw [hn];omega
  have c2:(0:Int)<=(l'.length:Int):=by omega
  have c3:(l'.length:Int) < ((l' ++ [x]).length:Int):=by rw [hn];omega
  have hrd:(l' ++ [x]).getD l'.length 0=x:=by rw [List.getD,List.getElem?_append_right (Nat.le_refl _),Nat.sub_self];rfl
  refine Tells.succ ?_
  simp only [Zz.l0]
  rw [hlen,w64c (by omega),rd_n,hrd,Int.toNat_natCast,List.take_left]
  refine Tells.ifp c1 (Tells.ifp c2 (Tells.ifp c3 ?_))
  by_cases hx:x=0
  ·refine Tells.ifp hx (Tells.ifp (Int.le_of_lt c3) ?_)
   rw [hx,Ze8];exact ih
  ·refine Tells.ifn hx (Tells.ifn (by omega) ?_)
   rw [Zfx _ hx];exact Tells.pure _
theorem Zop (l:List Int) (h:l.length<=4611686018427387904):Tells (fun k=>Zz.f k l) (trimL l):=Zjc _ l rfl h
theorem Zd1 {l:List Int} {n:Nat} (hd:Dg 4294967296 l) (hv:val 4294967296 l=n) (h:l.length<=4611686018427387904):Tells (fun k=>Zz.f k l) (limbs n):=(Zop l h).val (Zjt hd hv)
theorem Add32 (x y c:Nat) (hx:x < 4294967296) (hy:y < 4294967296) (hc:c<=1):Zcl.f (x:Int) (y:Int) (c:Int)=some ((((x+y+c) % 4294967296:Nat):Int),(((x+y+c) / 4294967296:Nat):Int)):=by
 unfold Zcl.f
 rw [u64n (by omega),u64n (by omega),u64n (m:=c) (by omega),u64p (by omega),u64p (by omega)]
 congr 2
 omega
structure AddAt (a b:List Int) (i c:Nat) (o:List Int):Prop where
 len:o.length=i
 dg:Dg 4294967296 o
 c1:c<=1
 law:val 4294967296 o+pw 4294967296 i*c=val 4294967296 (a.take i)+val 4294967296 (b.take i)
theorem AddAt.start (a b:List Int):AddAt a b 0 0 []:=⟨rfl,Dg.nil _,by omega,by simp [val]⟩
theorem AddAt.step {a b:List Int} {i c:Nat} {o:List Int} (h:AddAt a b i c o) {x y:Nat} (hx:a.getD i 0=x) (hy:b.getD i 0=y) (hx1:x < 4294967296) (hy1:y < 4294967296) :
  AddAt a b (i+1) ((x+y+c) / 4294967296) (o ++ [(((x+y+c) % 4294967296:Nat):Int)]):=by
 have hc:=h.c1
 refine ⟨by simp [h.len],h.dg.app (Dg.one (by omega) (by omega)),by omega,?_⟩
 rw [Zct,Zct,Zdm,h.len,Zen,hx,hy]
 have hl:=h.law
 generalize pw 4294967296 i=M at *
 have e:M*(((x+y+c) % 4294967296:Nat):Int)+4294967296*M*(((x+y+c) / 4294967296:Nat):Int)=M*x+M*y+M*c:=by
  rw [Int.mul_comm 4294967296 M,Int.mul_assoc,<- Int.mul_add,<- Int.mul_add,<- Int.mul_add]
  congr 1;omega
 omega
theorem AddAt.done {a b:List Int} {c:Nat} {o:List Int} (h:AddAt a b a.length c o) (ha:Dg 4294967296 a) (hb:Dg 4294967296 b) (hl:b.length<=a.length) (hz:a.length<=1000000):Tells (fun k=>Zz.f k (o ++ [(c:Int)])) (limbs (num a+num b)):=by
 have hc:=h.c1
 have hlen:=h.len
 refine Zd1 (h.dg.app (Dg.one (by omega) (by omega))) ?_ (by simp;omega)
 have hlaw:=h.law
 rw [List.take_length,List.take_of_length_le hl] at hlaw
 rw [Zdm,h.len,hlaw,<- Zdl ha,<- Zdl hb]
 omega
theorem Zsb {a b:List Int} (ha:Dg 4294967296 a) (hb:Dg 4294967296 b) (la:a.length<=1000000) (lb:b.length<=a.length):∀ (d i c:Nat) (o:List Int),a.length - i=d->i<=a.length->AddAt a b i c o ->
  Tells (fun k=>Zaf.l0 k b o (c:Int) a (a.length:Int) (i:Int)) (limbs (num a+num b))
 | 0,i,c,o,hd,hi,h=>by
  obtain rfl:i=a.length:=by omega
  have hlen:=h.len
  have c3:o.length < 35184372088832:=by omega
  refine Tells.succ ?_
  simp only [Zaf.l0]
  exact Tells.ifn (Int.lt_irrefl _) (Tells.ifp c3 ((h.done ha hb lb la).bind (Tells.pure _)))
 | d+1,i,c,o,hd,hi,h=>by
  obtain ⟨x,hx,hx1⟩:=dgL ha i
  obtain ⟨y,hy,hy1⟩:=dgL hb i
  have ih:=Zsb ha hb la lb d (i+1) _ _ (by omega) (by omega) (h.step hx hy hx1 hy1)
  have hlen:=h.len
  have c1:(i:Int) < (a.length:Int):=by omega
  have c2:(0:Int)<=(i:Int):=by omega
  have c3:o.length < 35184372088832:=by omega
  refine Tells.succ ?_
  simp only [Zaf.l0]
  rw [rd_n,rd_n,hx,hy,w64s (by omega),Add32 x y c hx1 hy1 h.c1]
  refine Tells.ifp c1 (Tells.ifp c2 (Tells.ifp c1 ?_))
  by_cases hb2:i < b.length
  ·exact Tells.ifp (by omega) ((Tells.pure _).bind (Tells.ifp c3 ih))
  ·have e3:y=0:=by have := Ze3 (l:=b) (i:=i) (by omega);omega
   rw [e3] at ih
   have e4:=Add32 x 0 c hx1 (by omega) h.c1
   refine Tells.ifn (by omega) ?_
   rw [show (0:Int)=((0:Nat):Int) from rfl,e4]
   exact (Tells.pure _).bind (Tells.ifp c3 ih)
theorem Zsc {a b:List Int} (ha:Dg 4294967296 a) (hb:Dg 4294967296 b) (la:a.length<=1000000) (lb:b.length<=a.length):∀ (d i c:Nat) (o:List Int),a.length - i=d->i<=a.length->AddAt a b i c o ->
  Tells (fun k=>Zaf.l2 k b o (c:Int) a (a.length:Int) (i:Int)) (limbs (num a+num b))
 | 0,i,c,o,hd,hi,h=>by
  obtain rfl:i=a.length:=by omega
  have hlen:=h.len
  have c3:o.length < 35184372088832:=by omega
  refine Tells.succ ?_
  simp only [Zaf.l2]
  exact Tells.ifn (Int.lt_irrefl _) (Tells.ifp c3 ((h.done ha hb lb la).bind (Tells.pure _)))
 | d+1,i,c,o,hd,hi,h=>by
  obtain ⟨x,hx,hx1⟩:=dgL ha i
  obtain ⟨y,hy,hy1⟩:=dgL hb i
  have ih:=Zsc ha hb la lb d (i+1) _ _ (by omega) (by omega) (h.step hx hy hx1 hy1)
  have hlen:=h.len
  have c1:(i:Int) < (a.length:Int):=by omega
  have c2:(0:Int)<=(i:Int):=by omega
  have c3:o.length < 35184372088832:=by omega
  refine Tells.succ ?_
  simp only [Zaf.l2]
  rw [rd_n,rd_n,hx,hy,w64s (by omega),Add32 x y c hx1 hy1 h.c1]
  refine Tells.ifp c1 (Tells.ifp c2 (Tells.ifp c1 ?_))
  by_cases hb2:i < b.length
  ·exact Tells.ifp (by omega) ((Tells.pure _).bind (Tells.ifp c3 ih))
  ·have e3:y=0:=by have := Ze3 (l:=b) (i:=i) (by omega);omega
   rw [e3] at ih
   have e4:=Add32 x 0 c hx1 (by omega) h.c1
   refine Tells.ifn (by omega) ?_
   rw [show (0:Int)=((0:Nat):Int) from rfl,e4]
   exact (Tells.pure _).bind (Tells.ifp c3 ih)
theorem Zph {a b:List Int} (ha:Dg 4294967296 a) (hb:Dg 4294967296 b) (la:a.length<=1000000) (lb:b.length<=1000000):Tells (fun k=>Zaf.f k a b) (limbs (num a+num b)):=by
 unfold Zaf.f
 by_cases h:a.length < b.length
 ·have h1:=Zsb hb ha lb (by omega) b.length 0 0 [] (by omega) (by omega) (AddAt.start b a)
  rw [Nat.add_comm] at h1
  refine Tells.ifp (by omega) ?_
  rw [w64s (by omega)]
  exact Tells.ifp (by omega) (Tells.ifp (by omega) h1)
 ·have h1:=Zsc ha hb la (by omega) a.length 0 0 [] (by omega) (by omega) (AddAt.start a b)
  refine Tells.ifn (by omega) ?_
  rw [w64s (by omega)]
  exact Tells.ifp (by omega) (Tells.ifp (by omega) h1)
theorem Zoj {a b:List Int} (ha:Dg 4294967296 a) (hb:Dg 4294967296 b) (hn:Nz b) (h:num b<=num a):b.length<=a.length:=by
 refine Nat.not_lt.1 (fun hlt=>?_)
 have := Zfd (b:=4294967296) (by omega) ha hb hn hlt
 rw [<- Zdl ha,<- Zdl hb] at this
 omega
structure MulAt (a b:List Int) (i k c:Nat) (ds:List Int):Prop where
 len:ds.length=a.length+b.length
 dg:Dg 4294967296 ds
 c1:c < 4294967296
 hi:∀ j,i+b.length<=j->ds.getD j 0=0
 law:val 4294967296 ds+pw 4294967296 (i+k)*c=val 4294967296 (a.take i)*val 4294967296 b+pw 4294967296 i*(a.getD i 0*val 4294967296 (b.take k))
theorem MulAt.start (a b:List Int):MulAt a b 0 0 0 (List.replicate (a.length+b.length) 0) :=
 ⟨by simp,Dg.zeros (by omega) _,by omega,fun j _=>by simp [List.getD,List.getElem?_replicate];split <;> rfl,by simp [val,Zgp]⟩
theorem Zh8 {b:Int} {l:List Int} (h:Dg b l) (j:Nat) {x:Int} (h0:0<=x) (h1:x < b):Dg b (l.set j x):=fun y hy=>by
 rcases List.mem_or_eq_of_mem_set hy with hy|rfl
 ·exact h y hy
 ·exact ⟨h0,h1⟩
theorem Zqh {x y u c:Nat} (hx:x < 4294967296) (hy:y < 4294967296) (hu:u < 4294967296) (hc:c < 4294967296):x*y+u+c < 18446744073709551616:=by
 have := Nat.mul_le_mul (show x<=4294967295 by omega) (show y<=4294967295 by omega)
 omega
theorem MulAt.step {a b ds:List Int} {i k c:Nat} (h:MulAt a b i k c ds) {x y u:Nat} (hx:a.getD i 0=x) (hy:b.getD k 0=y) (hu:ds.getD (i+k) 0=u) (hx1:x < 4294967296) (hy1:y < 4294967296) (hu1:u < 4294967296) (hi:i < a.length) (hk:k < b.length) :
  MulAt a b i (k+1) ((x*y+u+c) / 4294967296) (ds.set (i+k) (((x*y+u+c) % 4294967296:Nat):Int)):=by
 have hs:=Zqh hx1 hy1 hu1 h.c1
 have hlt:i+k < ds.length:=by rw [h.len];omega
 refine ⟨by rw [List.length_set];exact h.len,Zh8 h.dg _ (by omega) (by omega),by omega,fun j hj=>?_,?_⟩
 ·rw [getD_set_ne _ (by omega)];exact h.hi j hj
 ·rw [Zfn _ hlt,Zct,<- Nat.add_assoc,Zen,hu,hy]
  have hl:=h.law
  rw [Int.mul_add (a.getD i 0),Int.mul_add (pw 4294967296 i),<- Int.add_assoc,<- hl,Zhj,hx]
  have e1:pw 4294967296 i*((x:Int)*(pw 4294967296 k*(y:Int)))=pw 4294967296 i*pw 4294967296 k*((x:Int)*y):=by
   rw [Int.mul_left_comm (x:Int),Int.mul_assoc]
  rw [e1]
  generalize pw 4294967296 i*pw 4294967296 k=M
  obtain ⟨p,hp⟩:∃ p,x*y=p:=⟨_,rfl⟩
  have hp':(x:Int)*(y:Int)=(p:Int):=by rw [<- hp];exact (Int.natCast_mul x y).symm
  rw [hp,hp']
  have e2:M*((((p+u+c) % 4294967296:Nat):Int) - u)+4294967296*M*(((p+u+c) / 4294967296:Nat):Int)=M*c+M*p:=by
   rw [Int.mul_comm 4294967296 M,Int.mul_assoc,<- Int.mul_add,<- Int.mul_add]
   congr 1;omega
  omega
theorem MulAt.next {a b ds:List Int} {i c:Nat} (h:MulAt a b i b.length c ds) (hi:i < a.length):MulAt a b (i+1) 0 0 (ds.set (i+b.length) (c:Int)):=by
 have hc:=h.c1
 have hlt:i+b.length < ds.length:=by rw [h.len];omega
 refine ⟨by rw [List.length_set];exact h.len,Zh8 h.dg _ (by omega) (by omega),by omega,fun j hj=>?_,?_⟩
 ·rw [getD_set_ne _ (by omega)];exact h.hi j (by omega)
 ·have hl:=h.law
  rw [List.take_length] at hl
  rw [Zfn _ hlt,h.hi _ (Nat.le_refl _),Zct,Int.add_mul,Int.mul_assoc]
  have e0:((0:Nat):Int)=0:=rfl
  simp only [e0,Int.sub_zero,List.take_zero,Zf6,Int.mul_zero,Int.add_zero]
  exact hl
theorem Zsi {a b:List Int} {i:Nat} {V:List Int} (ha:Dg 4294967296 a) (hb:Dg 4294967296 b) (la:a.length<=1000000) (lb:b.length<=1000000) (hi:i < a.length)
  (hcont:∀ ds,MulAt a b (i+1) 0 0 ds->Tells (fun k=>Zag.l0 k b ds a (a.length:Int) ((i+1:Nat):Int)) V) :
  ∀ (e kk c:Nat) (ds:List Int),b.length - kk=e->kk<=b.length->MulAt a b i kk c ds->Tells (fun kf=>Zag.l1 kf b ds (i:Int) (a.getD i 0) (c:Int) a (a.length:Int) (i:Int) b (b.length:Int) (kk:Int)) V
 | 0,kk,c,ds,he,hkk,h=>by
  obtain rfl:kk=b.length:=by omega
  have hc:=h.c1
  have hlen:=h.len
  have c1:((i+b.length:Nat):Int) < (ds.length:Int):=by omega
  have c0:(0:Int)<=((i+b.length:Nat):Int):=by omega
  have e3:(c:Int) % 4294967296=(c:Int):=by omega
  refine Tells.succ ?_
  simp only [Zag.l1]
  rw [w64p (by omega),w64s (i:=i) (by omega),e3,Int.toNat_natCast]
  exact Tells.ifn (Int.lt_irrefl _) (Tells.ifp c0 (Tells.ifp c1 (hcont _ (h.next hi))))
 | e+1,kk,c,ds,he,hkk,h=>by
  have hkl:kk < b.length:=by omega
  obtain ⟨x,hx,hx1⟩:=dgL ha i
  obtain ⟨y,hy,hy1⟩:=dgL hb kk
  obtain ⟨u,hu,hu1⟩:=dgL h.dg (i+kk)
  have hs:=Zqh hx1 hy1 hu1 h.c1
  have hc:=h.c1
  have hlen:=h.len
  have ih:=Zsi ha hb la lb hi hcont e (kk+1) _ _ (by omega) (by omega) (h.step hx hy hu hx1 hy1 hu1 hi hkl)
  rw [hx] at ih ⊢
  obtain ⟨p,hp⟩:∃ p,x*y=p:=⟨_,rfl⟩
  rw [hp] at hs ih
  have c0:(kk:Int) < (b.length:Int):=by omega
  have c1:(0:Int)<=(kk:Int):=by omega
  have c2:(0:Int)<=((i+kk:Nat):Int):=by omega
  have c3:((i+kk:Nat):Int) < (ds.length:Int):=by omega
  refine Tells.succ ?_
  simp only [Zag.l1]
  rw [w64p (by omega),w64s (by omega),Int.toNat_natCast,rd_n,rd_n,hy,hu,u64n (m:=x) (by omega),u64n (m:=y) (by omega),u64n (m:=u) (by omega),u64k hp (by omega),u64p (by omega),u64p (by omega),emod32,ediv32]
  exact Tells.ifp c0 (Tells.ifp c1 (Tells.ifp c0 (Tells.ifp c2 (Tells.ifp c3 ih))))
theorem Zsh {a b:List Int} (ha:Dg 4294967296 a) (hb:Dg 4294967296 b) (la:a.length<=1000000) (lb:b.length<=1000000) :
  ∀ (d i:Nat) (ds:List Int),a.length - i=d->i<=a.length->MulAt a b i 0 0 ds->Tells (fun k=>Zag.l0 k b ds a (a.length:Int) (i:Int)) (limbs (num a*num b))
 | 0,i,ds,hd,hi,h=>by
  obtain rfl:i=a.length:=by omega
  have hlen:=h.len
  have hl:=h.law
  rw [List.take_length] at hl
  simp only [List.take_zero,Zf6,Int.mul_zero,Int.add_zero] at hl
  have hT:=Zd1 (n:=num a*num b) h.dg (by
   rw [Int.natCast_mul,Zdl ha,Zdl hb,<- hl];simp) (by omega)
  refine Tells.succ ?_
  simp only [Zag.l0]
  exact Tells.ifn (Int.lt_irrefl _) (hT.bind (Tells.pure _))
 | d+1,i,ds,hd,hi,h=>by
  have hil:i < a.length:=by omega
  have c0:(i:Int) < (a.length:Int):=by omega
  have c1:(0:Int)<=(i:Int):=by omega
  have hh:=Zsi ha hb la lb hil (fun ds' h2=>Zsh ha hb la lb d (i+1) ds' (by omega) (by omega) h2) b.length 0 0 ds (by omega) (by omega) h
  refine Tells.succ ?_
  simp only [Zag.l0]
  rw [rd_n]
  exact Tells.ifp c0 (Tells.ifp c1 (Tells.ifp c0 hh))
theorem Zpy {a b:List Int} (ha:Dg 4294967296 a) (hb:Dg 4294967296 b) (la:a.length<=1000000) (lb:b.length<=1000000):Tells (fun k=>Zag.f k a b) (limbs (num a*num b)):=by
 have h:=Zsh ha hb la lb a.length 0 _ (by omega) (by omega) (MulAt.start a b)
 unfold Zag.f
 rw [w64p (by omega),Int.toNat_natCast]
 exact Tells.ifp (by omega) (Tells.ifp (by omega) h)
end YtjbjkmccfocikaaGreatDoor.P
end
section
namespace YtjbjkmccfocikaaGreatDoor.B
open Go.RowKit YtjbjkmccfocikaaGreatDoorW.PrintWords YtjbjkmccfocikaaGreatDoorW.PrintLast YtjbjkmccfocikaaGreatDoorW.PrintMore
attribute [local go_sem] Zch Zci Zc9 Zda Zb1 Zb2 Zcp Zcq
def Za4.l0:Nat->Int->List Int->Int->List Int->Int->Int->Option (List Int)
 | 0,_,_,_,_,_,_=>none
 | k+1,x1,x5,x6,x13,x14,x15=>if x15 < x14 then (if 0<=x15 then (if x15 < (x13.length:Int) then (if 0<=x1 then (if x5.length < 35184372088832 then (if 0<=(wrap64 (32 - x1)) then (Za4.l0 k x1 (x5 ++ [Go.bits .or .u32 (shl .u32 (rd x13 x15) x1) x6]) ((shr .u64 (IntKind.u64.wrap (rd x13 x15)) (wrap64 (32 - x1))) % 4294967296) x13 x14 (wrap64 (x15+1))) else (none)) else (none)) else (none)) else (none)) else (none)) else (if x5.length < 35184372088832 then (some (x5 ++ [x6])) else (none))
def Za4.f (k:Nat) (l0:List Int) (a1:Int):Option (List Int):=if 0<=(wrap64 ((l0.length:Int)+1)) then (if (wrap64 ((l0.length:Int)+1):Int).toNat<=70368744177664 then (Za4.l0 k a1 (List.replicate 0 0) 0 l0 (l0.length:Int) 0) else (none)) else (none)
theorem Za4.calls (k:Nat) (A0:Option Addr) (c0:Nat) (l0:List Int) (a1:Int) (r:List Int) (w:World) (hr0:Kd.C (Kd.int .u32) w A0 l0.length l0) (hc0:l0.length<=c0) (h:Za4.f k l0 a1=some r) :
  Calls Tryz.prog 157 #[.slice A0 l0.length c0,.int .i64 a1] w fun e w' => ∃ v0_:Value,e=.returned (v0_)/\Kd.R (Kd.int .u32) 85 w' w.heap.size (fun _=>True) v0_ r/\Below w.heap.size w w':=by
 have HR0:=am hr0
 have HC0:=am hc0
 clear hr0 hc0
 have HB:=am (Below.refl w.heap.size w)
 have H:(if 0<=(wrap64 ((l0.length:Int)+1)) then (if (wrap64 ((l0.length:Int)+1):Int).toNat<=70368744177664 then (Za4.l0 k a1 (List.replicate 0 0) 0 l0 (l0.length:Int) 0) else (none)) else (none))=some r:=h
 clear h
 obtain ⟨ji3,hji3⟩:∃ j_:Int,(wrap64 ((l0.length:Int)+1))=j_:=⟨_,rfl⟩
 replace H:(if 0<=(ji3) then (if (ji3:Int).toNat<=70368744177664 then (Za4.l0 k a1 (List.replicate 0 0) 0 l0 (l0.length:Int) 0) else (none)) else (none))=some r:=by first|(rw [hji3] at H;exact H)|(simp only [hji3] at H ⊢;exact H)
 have hji3w:(IntKind.i64.wrap ((l0.length:Int)+1))=ji3:=(Zb9 _).trans hji3
 replace H:=iI H
 rcases H with ⟨c4b0,c4b1,H⟩|⟨_,_,H⟩
 ·replace H:=iI H
  rcases H with ⟨c5b0,c5b1,H⟩|⟨_,_,H⟩
  ·obtain ⟨qn,qb⟩:∃ y_:List Int,y_=(List.replicate 0 0):=⟨_,rfl⟩
   replace H:(Za4.l0 k a1 qn 0 l0 (l0.length:Int) 0)=some r:=by have hy_:=qb;exact pH
   have qf:=am qb
   clear qb
   have H':=am H
   clear H
   go_enter Tryz.func157,Tryz.ntmps157
   go_wp2_with (first|((with_reducible refine gd 12 ?_);refine Zio (Kd.int .u32) _ 85 rfl (N:=12) rfl 134 _ _ rfl ji3 rfl rfl Tryz.underlying134 (.int .u32 0) 4 info85 (by omega) 0 (ok:=fun _=>True) (okp:=fun _=>True) (fun _ hk=>hk) trivial (of_decide_eq_true pQ) (Nat.le_trans (Nat.mul_le_mul_right _ (of_decide_eq_true pQ:(ji3:Int).toNat<=70368744177664)) (by omega)) (Below.refl _ _) (Nat.le_refl _) ?_;intro qr w6 ho7 hb hg_ hnew_;clear hg_ hnew_;(first|rw [<- qf.out] at ho7|(simp only [Int.reduceToNat] at ho7;rw [<- qf.out] at ho7));have qi:=am (Kd.Zn ho7 (Zb pB));replace HB:=bS hb;clear hb ho7))
   go_loopg [5,6,15] k (fun kq v5 v6 v15 w' => ∃ (x5_1:List Int) (x6_1:Int) (x15_1:Int),v6=.int .u32 x6_1/\v15=.int .i64 x15_1/\Aside0 (Za4.l0 kq a1 x5_1 x6_1 l0 (l0.length:Int) x15_1=some r)/\Aside0 (kq<=k)/\Aside0 (Kd.R (Kd.int .u32) 85 w' w.heap.size (fun _=>True) v5 x5_1)/\Aside0 (Below w.heap.size w w'))
   case atStart=>exact ⟨(qn),(0),(0),pR,pR,H',⟨Nat.le_refl _⟩,⟨by refine rp ?_;exact qi.o⟩,⟨pB⟩⟩
   case round =>
    clear H'
    obtain ⟨x5_1,x6_1,x15_1,rfl,rfl,HA,HK1,HO_5,HB⟩:=hrel
    cases gk with
    | zero=>exact absurd HA.out (by simp [Za4.l0])
    | succ k1 =>
     have H:=HA.out
     clear HA
     simp only [Za4.l0] at H
     replace H:=dI H
     rcases H with ⟨c8b0,H⟩|⟨c8b0,H⟩
     ·replace H:=dI H
      rcases H with ⟨c9b0,H⟩|⟨_,H⟩
      ·replace H:=dI H
       rcases H with ⟨c10b0,H⟩|⟨_,H⟩
       ·replace H:=iI H
        rcases H with ⟨c11b0,c11b1,H⟩|⟨_,_,H⟩
        ·obtain ⟨ji12,hji12⟩:∃ j_:Int,(shl .u32 (rd l0 x15_1) a1)=j_:=⟨_,rfl⟩
         replace H:(if x5_1.length < 35184372088832 then (if 0<=(wrap64 (32 - a1)) then (Za4.l0 k1 a1 (x5_1 ++ [Go.bits .or .u32 (ji12) x6_1]) ((shr .u64 (IntKind.u64.wrap (rd l0 x15_1)) (wrap64 (32 - a1))) % 4294967296) l0 (l0.length:Int) (wrap64 (x15_1+1))) else (none)) else (none))=some r:=by first|(rw [hji12] at H;exact H)|(simp only [hji12] at H ⊢;exact H)
         have hji12_:(IntKind.u32.wrap ((rd l0 x15_1)*2 ^ min a1.toNat 32))=ji12:=hji12
         have hji12z:a1<=32->(IntKind.u32.wrap ((rd l0 x15_1)*2 ^ a1.toNat))=ji12:=Zls hji12
         by_cases c13:x5_1.length < 35184372088832
         ·rw [if_pos c13] at H
          have LMc13:=am c13
          clear c13
          obtain ⟨qe,qc⟩:∃ y_:List Int,y_=(x5_1 ++ [Go.bits .or .u32 (ji12) x6_1]):=⟨_,rfl⟩
          replace H:(if 0<=(wrap64 (32 - a1)) then (Za4.l0 k1 a1 qe ((shr .u64 (IntKind.u64.wrap (rd l0 x15_1)) (wrap64 (32 - a1))) % 4294967296) l0 (l0.length:Int) (wrap64 (x15_1+1))) else (none))=some r:=by have hy_:=qc;exact pH
          have ql:=am qc
          clear qc
          obtain ⟨ji14,hji14⟩:∃ j_:Int,(wrap64 (32 - a1))=j_:=⟨_,rfl⟩
          replace H:(if 0<=(ji14) then (Za4.l0 k1 a1 qe ((shr .u64 (IntKind.u64.wrap (rd l0 x15_1)) (ji14)) % 4294967296) l0 (l0.length:Int) (wrap64 (x15_1+1))) else (none))=some r:=by first|(rw [hji14] at H;exact H)|(simp only [hji14] at H ⊢;exact H)
          have hji14w:(IntKind.i64.wrap (32 - a1))=ji14:=(Zb9 _).trans hji14
          replace H:=iI H
          rcases H with ⟨c15b0,c15b1,H⟩|⟨_,_,H⟩
          ·obtain ⟨ji16,hji16⟩:∃ j_:Int,(shr .u64 (IntKind.u64.wrap (rd l0 x15_1)) (ji14))=j_:=⟨_,rfl⟩
           replace H:(Za4.l0 k1 a1 qe ((ji16) % 4294967296) l0 (l0.length:Int) (wrap64 (x15_1+1)))=some r:=by first|(rw [hji16] at H;exact H)|(simp only [hji16] at H ⊢;exact H)
           have hji16_:((IntKind.u64.wrap (rd l0 x15_1)) / 2 ^ min (ji14).toNat 64)=ji16:=hji16
           have hji16z:(ji14)<=64->((IntKind.u64.wrap (rd l0 x15_1)) / 2 ^ (ji14).toNat)=ji16:=Zlt hji16
           have H':=am H
           clear H
           have qg:0<=(x15_1:Int):=of_decide_eq_true pQ
           have qh:x15_1 < (l0.length:Int):=of_decide_eq_true pQ
           obtain ⟨qq,qo,qa⟩:=Kd.Zay HR0.o x15_1 qg qh
           cases qo
           replace qa:=(HB.o.cell (World.block_lt_of_cell? w _ qa)).trans qa
           replace qg:=eq_true qg
           replace qh:=eq_true qh
           go_wp2_with (first|((with_reducible refine Zar (b:=.append) (xs:=#[.tmp 19,.tmp 25]) rfl ?_);at_builtin;refine Kd.Zb3 (Kd.int .u32) (w0:=w) w.heap.size rfl (.tmp 19) (.tmp 25) 134 85 (.int .u32 0) 4 rfl Tryz.underlying134 info85 rfl (by decide) (by omega) u5 x5_1 (Go.bits .or .u32 (ji12) x6_1) [.int .u32 (Go.bits .or .u32 (ji12) x6_1)] (fun _=>True) (fun _=>False) rfl rfl ?aP (fun _ hk=>hk.elim) ?aF ?aO ?aB ?aS ?aL ?_;(case aP=>exact rfl);(case aB=>exact pB);(case aF=>exact (fun _ _=>trivial));(case aO=>exact (Kd.Za HO_5.o pl));(case aS=>exact (Zb pB));(case aL=>have := LMc13.o;omega);intro qs w17 ho hb hg hat;rw [<- ql.out] at ho;have qj:=am ho;replace HB:=am hb;clear HO_5 ho hb hg hat))
           go_roundg k1
           case measure=>exact pM
           case rel=>exact ⟨(qe),((ji16) % 4294967296),(wrap64 (x15_1+1)),(by first|rfl|(simp;done)|(simp only [<- hji16] <;> (first|rfl|simp))|(simp [*];done)),pR,(by first|exact H'|(have H_:=H'.out;simp only [<- hji3] at H_;exact ⟨H_⟩)|(refine ⟨?_⟩;have H_:=H'.out;simp only [<- hji3] at H_ ⊢;exact H_)|(have H_:=H'.out;simp only [<- hji14] at H_;exact ⟨H_⟩)|(refine ⟨?_⟩;have H_:=H'.out;simp only [<- hji14] at H_ ⊢;exact H_)),pJ,⟨by refine rp ?_;exact qj.o⟩,⟨pB⟩⟩
          ·cases H
         ·rw [if_neg c13] at H
          cases H
        ·cases H
       ·cases H
      ·cases H
     ·by_cases c18:x5_1.length < 35184372088832
      ·rw [if_pos c18] at H
       have LMc18:=am c18
       clear c18
       obtain ⟨qp,qd⟩:∃ y_:List Int,y_=(x5_1 ++ [x6_1]):=⟨_,rfl⟩
       replace H:(some qp)=some r:=by have hy_:=qd;exact pH
       have qm:=am qd
       clear qd
       obtain rfl:=Option.some.inj H
       go_wp2_with (first|((with_reducible refine Zar (b:=.append) (xs:=#[.tmp 34,.tmp 36]) rfl ?_);at_builtin;refine Kd.Zb3 (Kd.int .u32) (w0:=w) w.heap.size rfl (.tmp 34) (.tmp 36) 134 85 (.int .u32 0) 4 rfl Tryz.underlying134 info85 rfl (by decide) (by omega) u5 x5_1 x6_1 [.int .u32 x6_1] (fun _=>True) (fun _=>False) rfl rfl ?aP (fun _ hk=>hk.elim) ?aF ?aO ?aB ?aS ?aL ?_;(case aP=>exact rfl);(case aB=>exact pB);(case aF=>exact (fun _ _=>trivial));(case aO=>exact (Kd.Za HO_5.o pl));(case aS=>exact (Zb pB));(case aL=>have := LMc18.o;omega);intro qt w19 ho hb hg hat;rw [<- qm.out] at ho;have qk:=am ho;replace HB:=am hb;clear HO_5 ho hb hg hat))
       go_ret
       exact ⟨_,by first|rfl|(simp [Zap,Zaq] <;> rfl)|(simp only [<- hji3];first|rfl|(simp [Zap,Zaq] <;> rfl))|(simp [*,Zap,Zaq] <;> rfl),by refine rp ?_;exact qk.o,pB⟩
      ·rw [if_neg c18] at H
       cases H
  ·cases H
 ·cases H
mutual
def Zbp.l0:Nat->Int->Int->Int->Int->Int->Option (Int)
 | 0,_,_,_,_,_=>none
 | k+1,x2,x3,x4,x12,x13=>if (x12 / 4294967296) > 0 then (Zbp.j1 k x2 x3 x4 x12 x13 true) else (Zbp.j1 k x2 x3 x4 x12 x13 (decide ((IntKind.u64.wrap (x12*(IntKind.u64.wrap (x4)))) > (Go.bits .or .u64 (IntKind.u64.wrap (x13*4294967296)) (IntKind.u64.wrap (x2))))))
def Zbp.j1:Nat->Int->Int->Int->Int->Int->Bool->Option (Int)
 | 0,_,_,_,_,_,_=>none
 | k+1,x2,x3,x4,x12,x13,x42=>if x42=true then (if ((IntKind.u64.wrap (x13+(IntKind.u64.wrap (x3)))) / 4294967296) > 0 then (some (IntKind.u64.wrap (x12 - 1))) else (Zbp.l0 k x2 x3 x4 (IntKind.u64.wrap (x12 - 1)) (IntKind.u64.wrap (x13+(IntKind.u64.wrap (x3)))))) else (some x12)
end
def Zbp.f (k:Nat) (a0:Int) (a1:Int) (a2:Int) (a3:Int) (a4:Int):Option (Int):=if (IntKind.u64.wrap (a3))=0 then (none) else (Zbp.l0 k a2 a3 a4 (IntKind.u64.wrap (Int.tdiv (Go.bits .or .u64 (IntKind.u64.wrap ((IntKind.u64.wrap (a0))*4294967296)) (IntKind.u64.wrap (a1))) (IntKind.u64.wrap (a3)))) (Int.tmod (Go.bits .or .u64 (IntKind.u64.wrap ((IntKind.u64.wrap (a0))*4294967296)) (IntKind.u64.wrap (a1))) (IntKind.u64.wrap (a3))))
theorem Zbp.calls (k:Nat) (a0:Int) (a1:Int) (a2:Int) (a3:Int) (a4:Int) (r:Int) (w:World) (h:Zbp.f k a0 a1 a2 a3 a4=some r) :
  Calls Tryz.prog 159 #[.int .u32 a0,.int .u32 a1,.int .u32 a2,.int .u32 a3,.int .u32 a4] w fun e w'=>e=.returned (.int .u64 r)/\Drawn0 w w':=by
 have H:(if (IntKind.u64.wrap (a3))=0 then (none) else (Zbp.l0 k a2 a3 a4 (IntKind.u64.wrap (Int.tdiv (Go.bits .or .u64 (IntKind.u64.wrap ((IntKind.u64.wrap (a0))*4294967296)) (IntKind.u64.wrap (a1))) (IntKind.u64.wrap (a3)))) (Int.tmod (Go.bits .or .u64 (IntKind.u64.wrap ((IntKind.u64.wrap (a0))*4294967296)) (IntKind.u64.wrap (a1))) (IntKind.u64.wrap (a3)))))=some r:=h
 clear h
 by_cases c6:(IntKind.u64.wrap (a3))=0
 ·rw [if_pos c6] at H
  cases H
 ·rw [if_neg c6] at H
  have c6b0:((IntKind.u64.wrap (a3)) == 0)=false:=beq_eq_false_iff_ne.mpr c6
  have c6b1:((IntKind.u64.wrap (a3)) != 0)=true:=bne_iff_ne.mpr c6
  have H':=am H
  clear H
  go_enter Tryz.func159,Tryz.ntmps159
  go_wp2
  repeat (go_quiet (fail);try go_wp2)
  go_loopg [12,13] k (fun kq v12 v13 w' => ∃ (x12_1:Int) (x13_1:Int),v12=.int .u64 x12_1/\v13=.int .u64 x13_1/\Aside0 (Zbp.l0 kq a2 a3 a4 x12_1 x13_1=some r)/\Aside0 (kq<=k)/\Drawn0 w w')
  case atStart=>exact ⟨(IntKind.u64.wrap (Int.tdiv (Go.bits .or .u64 (IntKind.u64.wrap ((IntKind.u64.wrap (a0))*4294967296)) (IntKind.u64.wrap (a1))) (IntKind.u64.wrap (a3)))),(Int.tmod (Go.bits .or .u64 (IntKind.u64.wrap ((IntKind.u64.wrap (a0))*4294967296)) (IntKind.u64.wrap (a1))) (IntKind.u64.wrap (a3))),pR,pR,H',⟨Nat.le_refl _⟩,pD⟩
  case round =>
   clear H'
   obtain ⟨x12_1,x13_1,rfl,rfl,HA,HK1,⟨m1,rfl⟩⟩:=hrel
   cases gk with
   | zero=>exact absurd HA.out (by simp [Zbp.l0])
   | succ k1 =>
    have H:=HA.out
    clear HA
    simp only [Zbp.l0] at H
    have HC7:=am H
    clear H
    go_upto_region 3 with (fail)
    repeat (go_quiet (fail);go_upto_region 3 with (fail))
    go_cut [42] (fun v42 wc => ∃ (kq:Nat) (x42_6:Bool),v42=.bool x42_6/\Aside0 (Zbp.j1 kq a2 a3 a4 x12_1 x13_1 x42_6=some r)/\Aside0 (kq<=k1)/\Drawn0 w wc)
    case first =>
     have H:=HC7.o
     clear HC7
     replace H:=gI H
     rcases H with ⟨c8b0,H⟩|⟨c8b0,H⟩
     ·(first|rw [c8b0]|(simp only [Zb9,Zdj];rw [c8b0])|skip)
      have H':=am H
      clear H
      go_wp2
      repeat (go_quiet (fail);try go_wp2)
      go_meet
      case rel=>exact ⟨_,(true),pR,H',pJ,pD⟩
     ·(first|rw [c8b0]|(simp only [Zb9,Zdj];rw [c8b0])|skip)
      have H':=am H
      clear H
      go_wp2
      repeat (go_quiet (fail);try go_wp2)
      go_meet
      case rel=>exact ⟨_,(decide ((IntKind.u64.wrap (x12_1*(IntKind.u64.wrap (a4)))) > (Go.bits .or .u64 (IntKind.u64.wrap (x13_1*4294967296)) (IntKind.u64.wrap (a2))))),pR,H',pJ,pD⟩
    case rest =>
     clear HC7
     obtain ⟨kq,x42_6,rfl,HA,HJ6,⟨mc6,rfl⟩⟩:=hcut
     cases kq with
     | zero=>exact absurd HA.out (by simp [Zbp.j1])
     | succ kj6 =>
      have H:=HA.out
      clear HA
      simp only [Zbp.j1] at H
      replace H:=tI (t:=x42_6) H
      rcases H with ⟨rfl,H⟩|⟨rfl,H⟩
      ·replace H:=gI H
       rcases H with ⟨c10b0,H⟩|⟨c10b0,H⟩
       ·obtain rfl:=Option.some.inj H
        go_wp2
        repeat (go_quiet (fail);try go_wp2)
        go_ret
        exact ⟨pR,pD⟩
       ·have H':=am H
        clear H
        go_wp2
        repeat (go_quiet (fail);try go_wp2)
        go_roundg kj6
        case measure=>exact pM
        case rel=>exact ⟨(IntKind.u64.wrap (x12_1 - 1)),(IntKind.u64.wrap (x13_1+(IntKind.u64.wrap (a3)))),pR,pR,H',pJ,pD⟩
      ·obtain rfl:=Option.some.inj H
       go_wp2
       repeat (go_quiet (fail);try go_wp2)
       go_ret
       exact ⟨pR,pD⟩
def Zad.l0:Nat->List Int->Int->List Int->List Int->Int->Int->Option (List Int)
 | 0,_,_,_,_,_,_=>none
 | k+1,x0,x1,x5,x11,x12,x13=>if x13 < x12 then (if 0<=x13 then (if x13 < (x11.length:Int) then (if 0<=x1 then (if x13 < (x5.length:Int) then ((some (x5.set (x13:Int).toNat (shr .u32 (rd x11 x13) x1):List Int)).bind fun qa=>(if (wrap64 (x13+1)) < (x0.length:Int) then (if 0<=(wrap64 (x13+1)) then (if 0<=(wrap64 (32 - x1)) then (Zad.l0 k x0 x1 (qa.set (x13:Int).toNat (Go.bits .or .u32 (rd qa x13) ((shl .u64 (IntKind.u64.wrap (rd x0 (wrap64 (x13+1)))) (wrap64 (32 - x1))) % 4294967296))) x11 x12 (wrap64 (x13+1))) else (none)) else (none)) else (Zad.l0 k x0 x1 qa x11 x12 (wrap64 (x13+1))))) else (none)) else (none)) else (none)) else (none)) else ((Zz.f k x5).bind fun qx=>(some qx))
def Zad.f (k:Nat) (l0:List Int) (a1:Int):Option (List Int):=if 0<=(l0.length:Int) then (if ((l0.length:Int):Int).toNat<=70368744177664 then (Zad.l0 k l0 a1 (List.replicate ((l0.length:Int):Int).toNat 0) l0 (l0.length:Int) 0) else (none)) else (none)
def Zad.T7:Bool × List (List Nat × List Nat):=(true,[([],[]),([],[]),([0,1],[0,1]),([2],[2]),([],[]),([],[]),([5],[5]),([4,6],[4,6]),([7],[7]),([8],[8]),([],[]),([10],[10]),([9,11],[9,11]),([12],[12]),([3,13],[3,13]),([0,1,0,1,2,3,4,5,6,7,8,9,10,11,12,13,14],[0,1]),([15,14,0,1,2,3,4,5,6,7,8,9,10,11,12,13,14],[14,15])])
def Zad.B7:List Nat:=[0,0,3,7,0,0,32,112,240,496,0,1024,4080,8176,16383,32767,65535]
theorem Zad.tab7:rtab .any (opsOf Tryz.f162 7)=Zad.T7:=by kernel_rfl
theorem Zad.bits7:waitsOk Zad.T7.2 Zad.B7=true:=by kernel_rfl
theorem Zad.calls (k:Nat) (A0:Option Addr) (c0:Nat) (l0:List Int) (a1:Int) (r:List Int) (w:World) (hr0:Kd.C (Kd.int .u32) w A0 l0.length l0) (hc0:l0.length<=c0) (h:Zad.f k l0 a1=some r) :
  Calls Tryz.prog 162 #[.slice A0 l0.length c0,.int .i64 a1] w fun e w' => ∃ v0_:Value,e=.returned (v0_)/\Kd.R (Kd.int .u32) 85 w' w.heap.size (fun _=>True) v0_ r/\Below w.heap.size w w':=by
 have HR0:=am hr0
 have HC0:=am hc0
 clear hr0 hc0
 have HB:=am (Below.refl w.heap.size w)
 have H:(if 0<=(l0.length:Int) then (if ((l0.length:Int):Int).toNat<=70368744177664 then (Zad.l0 k l0 a1 (List.replicate ((l0.length:Int):Int).toNat 0) l0 (l0.length:Int) 0) else (none)) else (none))=some r:=h
 clear h
 replace H:=iI H
 rcases H with ⟨c3b0,c3b1,H⟩|⟨_,_,H⟩
 ·replace H:=iI H
  rcases H with ⟨c4b0,c4b1,H⟩|⟨_,_,H⟩
  ·obtain ⟨q3,ql⟩:∃ y_:List Int,y_=(List.replicate ((l0.length:Int):Int).toNat 0):=⟨_,rfl⟩
   replace H:(Zad.l0 k l0 a1 q3 l0 (l0.length:Int) 0)=some r:=by have hy_:=ql;exact pH
   have qo:=am ql
   clear ql
   have H':=am H
   clear H
   go_enter Tryz.func162,Tryz.ntmps162
   go_wp2_with (first|((with_reducible refine gd 10 ?_);refine Kd.Zks (Kd.int .u32) _ 85 rfl (N:=10) rfl 134 _ _ rfl (l0.length:Int) rfl rfl Tryz.underlying134 (.int .u32 0) 4 info85 rfl (by decide) (by omega) 0 (ok:=fun _=>True) (okp:=fun _=>True) rfl (fun _ hk=>hk) trivial (of_decide_eq_true pQ) (Nat.le_trans (Nat.mul_le_mul_right _ (of_decide_eq_true pQ:(l0.length:Int).toNat<=70368744177664)) (by omega)) (Below.refl _ _) (Nat.le_refl _) ?_;intro q8 w5 ho6 hb hg_ hnew_;clear hg_ hnew_;(first|rw [<- qo.out] at ho6|(simp only [Int.reduceToNat] at ho6;rw [<- qo.out] at ho6));have qy:=am (Kd.Zn ho6 (Zb pB));replace HB:=bS hb;clear hb ho6))
   go_loopg [13] k (fun kq v13 w' => ∃ (x5_1:List Int) (x13_1:Int),v13=.int .i64 x13_1/\Aside0 (Zad.l0 kq l0 a1 x5_1 l0 (l0.length:Int) x13_1=some r)/\Aside0 (kq<=k)/\Aside0 (Kd.R (Kd.int .u32) 85 w' w.heap.size (fun _=>True) q8 x5_1)/\Aside0 (Below w.heap.size w w'))
   case atStart=>exact ⟨(q3),(0),pR,H',⟨Nat.le_refl _⟩,⟨by refine rp ?_;exact qy.o⟩,⟨pB⟩⟩
   case round =>
    clear H'
    obtain ⟨x5_1,x13_1,rfl,HA,HK1,HO_5,HB⟩:=hrel
    cases gk with
    | zero=>exact absurd HA.out (by simp [Zad.l0])
    | succ k1 =>
     have H:=HA.out
     clear HA
     simp only [Zad.l0] at H
     replace H:=dI H
     rcases H with ⟨c7b0,H⟩|⟨c7b0,H⟩
     ·replace H:=dI H
      rcases H with ⟨c8b0,H⟩|⟨_,H⟩
      ·replace H:=dI H
       rcases H with ⟨c9b0,H⟩|⟨_,H⟩
       ·replace H:=iI H
        rcases H with ⟨c10b0,c10b1,H⟩|⟨_,_,H⟩
        ·obtain ⟨ji11,hji11⟩:∃ j_:Int,(shr .u32 (rd l0 x13_1) a1)=j_:=⟨_,rfl⟩
         replace H:(if x13_1 < (x5_1.length:Int) then ((some (x5_1.set (x13_1:Int).toNat (ji11):List Int)).bind fun qa=>(if (wrap64 (x13_1+1)) < (l0.length:Int) then (if 0<=(wrap64 (x13_1+1)) then (if 0<=(wrap64 (32 - a1)) then (Zad.l0 k1 l0 a1 (qa.set (x13_1:Int).toNat (Go.bits .or .u32 (rd qa x13_1) ((shl .u64 (IntKind.u64.wrap (rd l0 (wrap64 (x13_1+1)))) (wrap64 (32 - a1))) % 4294967296))) l0 (l0.length:Int) (wrap64 (x13_1+1))) else (none)) else (none)) else (Zad.l0 k1 l0 a1 qa l0 (l0.length:Int) (wrap64 (x13_1+1))))) else (none))=some r:=by first|(rw [hji11] at H;exact H)|(simp only [hji11] at H ⊢;exact H)
         have hji11_:((rd l0 x13_1) / 2 ^ min a1.toNat 32)=ji11:=hji11
         have hji11z:a1<=32->((rd l0 x13_1) / 2 ^ a1.toNat)=ji11:=Zlt hji11
         replace H:=dI H
         rcases H with ⟨c12b0,H⟩|⟨_,H⟩
         ·obtain ⟨qa,qm⟩:∃ y_:List Int,y_=(x5_1.set (x13_1:Int).toNat (ji11)):=⟨_,rfl⟩
          replace H:(if (wrap64 (x13_1+1)) < (l0.length:Int) then (if 0<=(wrap64 (x13_1+1)) then (if 0<=(wrap64 (32 - a1)) then (Zad.l0 k1 l0 a1 (qa.set (x13_1:Int).toNat (Go.bits .or .u32 (rd qa x13_1) ((shl .u64 (IntKind.u64.wrap (rd l0 (wrap64 (x13_1+1)))) (wrap64 (32 - a1))) % 4294967296))) l0 (l0.length:Int) (wrap64 (x13_1+1))) else (none)) else (none)) else (Zad.l0 k1 l0 a1 qa l0 (l0.length:Int) (wrap64 (x13_1+1))))=some r:=by have hy_:=qm;exact pH
          have qh:=am qm
          clear qm
          replace H:=dI H
          rcases H with ⟨c14b0,H⟩|⟨c14b0,H⟩
          ·obtain ⟨ji15,hji15⟩:∃ j_:Int,(wrap64 (x13_1+1))=j_:=⟨_,rfl⟩
           replace H:(if 0<=(ji15) then (if 0<=(wrap64 (32 - a1)) then (Zad.l0 k1 l0 a1 (qa.set (x13_1:Int).toNat (Go.bits .or .u32 (rd qa x13_1) ((shl .u64 (IntKind.u64.wrap (rd l0 (ji15))) (wrap64 (32 - a1))) % 4294967296))) l0 (l0.length:Int) ji15) else (none)) else (none))=some r:=by first|(rw [hji15] at H;exact H)|(simp only [hji15] at H ⊢;exact H)
           (try rw [hji15] at c14b0)
           have hji15w:(IntKind.i64.wrap (x13_1+1))=ji15:=(Zb9 _).trans hji15
           replace H:=dI H
           rcases H with ⟨c16b0,H⟩|⟨_,H⟩
           ·obtain ⟨ji17,hji17⟩:∃ j_:Int,(wrap64 (32 - a1))=j_:=⟨_,rfl⟩
            replace H:(if 0<=(ji17) then (Zad.l0 k1 l0 a1 (qa.set (x13_1:Int).toNat (Go.bits .or .u32 (rd qa x13_1) ((shl .u64 (IntKind.u64.wrap (rd l0 (ji15))) (ji17)) % 4294967296))) l0 (l0.length:Int) ji15) else (none))=some r:=by first|(rw [hji17] at H;exact H)|(simp only [hji17] at H ⊢;exact H)
            have hji17w:(IntKind.i64.wrap (32 - a1))=ji17:=(Zb9 _).trans hji17
            replace H:=iI H
            rcases H with ⟨c18b0,c18b1,H⟩|⟨_,_,H⟩
            ·obtain ⟨ji19,hji19⟩:∃ j_:Int,(shl .u64 (IntKind.u64.wrap (rd l0 (ji15))) (ji17))=j_:=⟨_,rfl⟩
             replace H:(Zad.l0 k1 l0 a1 (qa.set (x13_1:Int).toNat (Go.bits .or .u32 (rd qa x13_1) ((ji19) % 4294967296))) l0 (l0.length:Int) ji15)=some r:=by first|(rw [hji19] at H;exact H)|(simp only [hji19] at H ⊢;exact H)
             have hji19_:(IntKind.u64.wrap ((IntKind.u64.wrap (rd l0 (ji15)))*2 ^ min (ji17).toNat 64))=ji19:=hji19
             have hji19z:(ji17)<=64->(IntKind.u64.wrap ((IntKind.u64.wrap (rd l0 (ji15)))*2 ^ (ji17).toNat))=ji19:=Zls hji19
             obtain ⟨q4,qn⟩:∃ y_:List Int,y_=(qa.set (x13_1:Int).toNat (Go.bits .or .u32 (rd qa x13_1) ((ji19) % 4294967296))):=⟨_,rfl⟩
             replace H:(Zad.l0 k1 l0 a1 q4 l0 (l0.length:Int) ji15)=some r:=by have hy_:=qn;exact pH
             have q0:=am qn
             clear qn
             have H':=am H
             clear H
             have qe:0<=(x13_1:Int):=of_decide_eq_true pQ
             have qf:x13_1 < (l0.length:Int):=of_decide_eq_true pQ
             obtain ⟨qi,qs,qb⟩:=Kd.Zay HR0.o x13_1 qe qf
             cases qs
             replace qb:=(HB.o.cell (World.block_lt_of_cell? w _ qb)).trans qb
             replace qe:=eq_true qe
             replace qf:=eq_true qf
             have p13:0<=(x13_1:Int):=of_decide_eq_true pQ
             have q13:(x13_1:Int) < ((x5_1.length:Int):Int):=of_decide_eq_true pQ
             obtain ⟨go13,qq,qj,qk,gl13,cl13,HG13⟩:=Kd.Zin HO_5.o (by omega)
             (first|cases qj|(injection qj with ea_ en_ ec_;(first|subst ea_|(injection ea_ with ea_;subst ea_));subst ec_;clear en_))
             have GB13:=am qk
             have GG13:=am HG13
             clear qk gl13 HG13
             obtain ⟨hx13_0,hf13_0⟩:=Kd.Zfk 0 HO_5.o (x13_1:Int) p13 q13
             replace p13:=eq_true p13
             replace q13:=eq_true q13
             have HP21:=Kd.Zjm HO_5.o (x13_1:Int) ji11
             try go_wp2_with (first|((with_reducible refine Zel (t:=85) (p:=23) rfl ?_);refine Zd8 (t:=85) (p:=23) (v:=?vo_w22) (w1:=(wr.setCell ⟨go13,(x13_1:Int).toNat,none⟩ (.int .u32 ji11))) ?hg ?ho ?hn ?hr ?_;(case ho=>rfl);(case hg=>rfl);(case hn=>rfl);(case hr=>first|(go_simp;done)|(go_simp;rfl));intro w22 hw;have hg:wr.grownBy w22 (some go13):=(by rw [hw];exact HP21.2);have hp_:Kd.R (Kd.int .u32) 85 w22 w.heap.size (fun _=>True) (.slice (some ⟨go13,0,none⟩) x5_1.length qq) qa:=(by rw [hw,qh.out];exact HP21.1);clear HP21;replace HO_5:=am (hp_);replace HB:=am ((by rw [hw];exact Zdn (HB.o) GB13.out:Below w.heap.size w w22));clear hg hw hp_))
             replace HO_5:=am (Kd.Zh5 HO_5.o)
             replace HB:=am (Zbh HB.o)
             have qt:0<=(x13_1:Int):=of_decide_eq_true pQ
             have qv:x13_1 < (qa.length:Int):=(by have h_:(x13_1:Int) < ((x5_1.length:Int):Int):=of_decide_eq_true pQ;first|(have e_:=(Kd.Zc HO_5.o).1;omega)|simpa only [qh.out,List.length_set] using h_)
             have q9:((x13_1:Int) < ((x5_1.length:Int):Int))=True:=eq_true (of_decide_eq_true pQ)
             obtain ⟨q1,q5,qc⟩:=Kd.Zay (Kd.Zc HO_5.o).2.2 x13_1 qt qv
             obtain rfl:(⟨go13,0,none⟩:Addr)=q1:=(by injection q5)
             (first|simp only [add_plain] at qc|simp only [Zh6] at qc|simp only [Addr.add,Nat.zero_add] at qc|skip)
             replace qt:=eq_true qt
             replace qv:=eq_true qv
             have qu:0<=((ji15):Int):=of_decide_eq_true pQ
             have qw:(ji15) < (l0.length:Int):=of_decide_eq_true pQ
             obtain ⟨q2,q6,qd⟩:=Kd.Zay HR0.o (ji15) qu qw
             have qg:=qd
             obtain rfl:qi=q2:=(by injection q6)
             replace qd:=(HB.o.cell (World.block_lt_of_cell? w _ qd)).trans qd
             replace qu:=eq_true qu
             replace qw:=eq_true qw
             have p20:0<=(x13_1:Int):=of_decide_eq_true pQ
             have q20:(x13_1:Int) < ((x5_1.length:Int):Int):=of_decide_eq_true pQ
             obtain ⟨hx20_0,hf20_0⟩:=Kd.Zfk 0 HO_5.o (x13_1:Int) p20 q20
             replace p20:=eq_true p20
             replace q20:=eq_true q20
             have HP24:=Kd.Zpb HO_5.o (x13_1:Int) (Go.bits .or .u32 (rd qa x13_1) ((ji19) % 4294967296))
             rw [<- q0.out] at HP24
             have HQ24:=am HP24
             clear HP24
             refine start_ (n:=17) (S:=fun w'=>w'.cell? ⟨go13,(x13_1).toNat,none⟩=some (.int .u32 (rd qa x13_1))/\w'.cell? (qi.add ((ji15)).toNat)=some (.int .u32 (rd l0 (ji15)))) (ds:=[16]) #[false,false,false,false,false,false,false,false,false,false,false,false,false,false,false,false,false] (by kernel_rfl) rfl rfl ⟨qc,((HB.o.cell (World.block_lt_of_cell? w _ qg)).trans qg)⟩ (fun hHeld=>?_);refine Zdo Zad.tab7 Zad.bits7 (fun HT_ HW_=>?_)
             generalize w22.drew=w23 at HO_5 HB HQ24 hf20_0 qc qd hx20_0 hHeld ⊢
             refine pu 0 (some 29) #[true,false,false,false,false,false,false,false,false,false,false,false,false,false,false,false,false] (h:=?_)
             refine pu 1 (some 30) #[true,true,false,false,false,false,false,false,false,false,false,false,false,false,false,false,false] (h:=?_)
             refine pu 2 (some 31) #[true,true,true,false,false,false,false,false,false,false,false,false,false,false,false,false,false] (h:=?_)
             refine pu 4 (some 33) #[true,true,true,false,true,false,false,false,false,false,false,false,false,false,false,false,false] (h:=?_)
             refine pu 5 (some 34) #[true,true,true,false,true,true,false,false,false,false,false,false,false,false,false,false,false] (h:=?_)
             refine pu 6 (some 35) #[true,true,true,false,true,true,true,false,false,false,false,false,false,false,false,false,false] (h:=?_)
             refine pu 7 (some 36) #[true,true,true,false,true,true,true,true,false,false,false,false,false,false,false,false,false] (h:=?_)
             refine pu 10 (some 39) #[true,true,true,false,true,true,true,true,false,false,true,false,false,false,false,false,false] (h:=?_)
             refine pu 11 (some 40) #[true,true,true,false,true,true,true,true,false,false,true,true,false,false,false,false,false] (h:=?_)
             refine take_ (i:=3) (N:=some 32) (v:=?_) (a':=?_) #[true,true,true,true,true,true,true,true,false,false,true,true,false,false,false,false,false] rfl rfl (Zcs HT_.out HW_.out (by kernel_rfl)) (fun _ _ _ h=>h) (Or.inl ⟨by rfl,?_⟩) hHeld ?_ ?_
             rotate_left
             ·rintro w' ⟨s0,s1⟩
              go_simp
              with_reducible rfl
             rotate_left
             ·exact pP
             refine take_ (i:=8) (N:=some 37) (v:=?_) (a':=?_) #[true,true,true,true,true,true,true,true,true,false,true,true,false,false,false,false,false] rfl rfl (Zcs HT_.out HW_.out (by kernel_rfl)) (fun _ _ _ h=>h) (Or.inl ⟨by rfl,?_⟩) hHeld ?_ ?_
             rotate_left
             ·rintro w' ⟨s0,s1⟩
              go_simp
              with_reducible rfl
             rotate_left
             ·exact pP
             refine pu 9 (some 38) #[true,true,true,true,true,true,true,true,true,true,true,true,false,false,false,false,false] (h:=?_)
             refine pu 12 (some 41) #[true,true,true,true,true,true,true,true,true,true,true,true,true,false,false,false,false] (h:=?_)
             refine pu 13 (some 42) #[true,true,true,true,true,true,true,true,true,true,true,true,true,true,false,false,false] (h:=?_)
             refine pu 14 (some 43) #[true,true,true,true,true,true,true,true,true,true,true,true,true,true,true,false,false] (h:=?_)
             refine pu 15 (some 44) #[true,true,true,true,true,true,true,true,true,true,true,true,true,true,true,true,false] (h:=?_)
             refine last_ (i:=16) (N:=none) #[true,true,true,true,true,true,true,true,true,true,true,true,true,true,true,true,true] rfl rfl (Zc6 HT_.out (by kernel_rfl)) (by decide) (fun K hK=>?_)
             refine skip_ (w1:=?_) (by rfl) rfl ?_ ?_
             rotate_left
             ·go_simp
              rfl
             refine hK.out _ _ ?_
             clear hK K
             refine done_ (Zex HT_.out (by kernel_rfl)) ?_
             try go_wp2
             go_roundg k1
             case measure=>exact pM
             case rel=>exact ⟨(q4),(ji15),(by first|rfl|(simp;done)|(simp only [<- hji15] <;> (first|rfl|simp))|(simp [*];done)),(by first|exact H'|(have H_:=H'.out;simp only [<- hji15] at H_;exact ⟨H_⟩)|(refine ⟨?_⟩;have H_:=H'.out;simp only [<- hji15] at H_ ⊢;exact H_)|(have H_:=H'.out;simp only [<- hji17] at H_;exact ⟨H_⟩)|(refine ⟨?_⟩;have H_:=H'.out;simp only [<- hji17] at H_ ⊢;exact H_)),pJ,⟨by refine rp ?_;exact HQ24.out⟩,⟨by repeat (first|(with_reducible first|exact HB.o|apply Zck|apply Zaz|apply Zbh|refine Zdn ?_ GB13.out)|exact HB.o)⟩⟩
            ·cases H
           ·cases H
          ·have H':=am H
           clear H
           have qe:0<=(x13_1:Int):=of_decide_eq_true pQ
           have qf:x13_1 < (l0.length:Int):=of_decide_eq_true pQ
           obtain ⟨qi,qs,qb⟩:=Kd.Zay HR0.o x13_1 qe qf
           cases qs
           replace qb:=(HB.o.cell (World.block_lt_of_cell? w _ qb)).trans qb
           replace qe:=eq_true qe
           replace qf:=eq_true qf
           have p13:0<=(x13_1:Int):=of_decide_eq_true pQ
           have q13:(x13_1:Int) < ((x5_1.length:Int):Int):=of_decide_eq_true pQ
           obtain ⟨go13,qq,qj,qk,gl13,cl13,HG13⟩:=Kd.Zin HO_5.o (by omega)
           (first|cases qj|(injection qj with ea_ en_ ec_;(first|subst ea_|(injection ea_ with ea_;subst ea_));subst ec_;clear en_))
           have GB13:=am qk
           have GG13:=am HG13
           clear qk gl13 HG13
           obtain ⟨hx13_0,hf13_0⟩:=Kd.Zfk 0 HO_5.o (x13_1:Int) p13 q13
           replace p13:=eq_true p13
           replace q13:=eq_true q13
           have HP25:=Kd.Zjm HO_5.o (x13_1:Int) ji11
           go_wp2_with (first|((with_reducible refine Zel (t:=85) (p:=23) rfl ?_);refine Zd8 (t:=85) (p:=23) (v:=?vo_w26) (w1:=(wr.setCell ⟨go13,(x13_1:Int).toNat,none⟩ (.int .u32 ji11))) ?hg ?ho ?hn ?hr ?_;(case ho=>rfl);(case hg=>rfl);(case hn=>rfl);(case hr=>first|(go_simp;done)|(go_simp;rfl));intro w26 hw;have hg:wr.grownBy w26 (some go13):=(by rw [hw];exact HP25.2);have hp_:Kd.R (Kd.int .u32) 85 w26 w.heap.size (fun _=>True) (.slice (some ⟨go13,0,none⟩) x5_1.length qq) qa:=(by rw [hw,qh.out];exact HP25.1);clear HP25;replace HO_5:=am (hp_);replace HB:=am ((by rw [hw];exact Zdn (HB.o) GB13.out:Below w.heap.size w w26));clear hg hw hp_))
           go_roundg k1
           case measure=>exact pM
           case rel=>exact ⟨(qa),(wrap64 (x13_1+1)),pR,H',pJ,⟨by refine rp ?_;exact HO_5.o⟩,⟨pB⟩⟩
         ·cases H
        ·cases H
       ·cases H
      ·cases H
     ·replace H:=ob H
      obtain ⟨qx,A27,H⟩:=H
      obtain rfl:=Option.some.inj H
      obtain ⟨qp,qr,q7⟩:=Kd.Zh HO_5.o
      subst q7
      go_wp2_with (first|(refine gL (some 47) Tryz.func132 #[.slice qp x5_1.length qr] (h:=?_);(with_reducible refine (Zz.calls k1 (fun k_=>some k_=(.slice qp x5_1.length qr:Value).ownBlock) (.slice qp x5_1.length qr) x5_1 qx w _ ?side1 ?side2 A27.o).mono ?_);(case side1=>exact pB);(case side2=>exact Kd.Zby rfl HO_5.o);rintro e w29 ⟨ja,rfl,ho0,hb,hkp⟩;refine ⟨_,rfl,?_⟩;have qz:=am (Kd.Zo (ok':=fun k_=>True) ho0 (fun k_ hk_=>trivial));replace HB:=am hb;clear HO_5))
      go_ret
      exact ⟨_,pE,by refine rp ?_;exact qz.o,pB⟩
  ·cases H
 ·cases H
end YtjbjkmccfocikaaGreatDoor.B
end
section
namespace YtjbjkmccfocikaaGreatDoor.P
open Go.RowKit YtjbjkmccfocikaaGreatDoor.B YtjbjkmccfocikaaGreatDoorW.PrintWords YtjbjkmccfocikaaGreatDoorW.PrintLast YtjbjkmccfocikaaGreatDoorW.PrintMore YtjbjkmccfocikaaGreatDoor.P.Nm
theorem Zgw {n:Nat} (h:n < 32):2 ^ n<=2147483648:=by
 have := Nat.pow_le_pow_right (show 0 < 2 by omega) (show n<=31 by omega)
 exact Nat.le_trans this (by decide)
theorem two_pow_pos (n:Nat):0 < 2 ^ n:=Nat.pow_pos (by omega)
theorem Zh4 {n:Nat} (h:n<=32):2 ^ n*2 ^ (32 - n)=4294967296:=by rw [<- Nat.pow_add,show n+(32 - n)=32 by omega]
theorem Zmf (n h l:Nat) (hl:l < 2 ^ n):(h*2 ^ n) ||| l=h*2 ^ n+l:=by
 rw [Nat.mul_comm,<- Nat.two_pow_add_eq_or_of_lt hl]
theorem shl32 {x n:Nat} (h:n<=32) (hx:x < 4294967296):shl .u32 (x:Int) (n:Int)=(((x*2 ^ n) % 4294967296:Nat):Int):=by
 unfold shl
 rw [Int.toNat_natCast,show IntKind.u32.bits=32 from rfl,Nat.min_eq_left h]
 have e:(x:Int)*2 ^ n=((x*2 ^ n:Nat):Int):=by rw [Int.natCast_mul,Int.natCast_pow];rfl
 rw [e]
 simp [IntKind.wrap,IntKind.bits,IntKind.signed]
theorem shl64 {x n:Nat} (h:n<=64) (hx:x*2 ^ n < 18446744073709551616):shl .u64 (x:Int) (n:Int)=((x*2 ^ n:Nat):Int):=by
 unfold shl
 rw [Int.toNat_natCast,show IntKind.u64.bits=64 from rfl,Nat.min_eq_left h]
 have e:(x:Int)*2 ^ n=((x*2 ^ n:Nat):Int):=by rw [Int.natCast_mul,Int.natCast_pow];rfl
 rw [e,u64n hx]
theorem Zqt {k:IntKind} {x n:Nat} (h:n<=k.bits):shr k (x:Int) (n:Int)=((x / 2 ^ n:Nat):Int):=by
 unfold shr
 rw [Int.toNat_natCast,Nat.min_eq_left h,Int.natCast_ediv,Int.natCast_pow];rfl
theorem Zn1 {x n m:Nat} (hn:n < 32) (hx:x < 4294967296) (hm:m < 2 ^ n):bits .or .u32 (((x*2 ^ n) % 4294967296:Nat):Int) (m:Int)=(((x*2 ^ n) % 4294967296+m:Nat):Int)/\(x*2 ^ n) % 4294967296+m < 4294967296/\x / 2 ^ (32 - n) < 2 ^ n/\(x*2 ^ n) % 4294967296+m+4294967296*(x / 2 ^ (32 - n))=x*2 ^ n+m:=by
 have h2:=Zgw hn
 have h3:=two_pow_pos n
 have h4:=Zh4 (n:=n) (by omega)
 have h5:=two_pow_pos (32 - n)
 obtain ⟨P,hP⟩:∃ P,2 ^ n=P:=⟨_,rfl⟩
 obtain ⟨R,hR⟩:∃ R,2 ^ (32 - n)=R:=⟨_,rfl⟩
 rw [hP] at h2 h3 h4 hm ⊢
 rw [hR] at h4 h5 ⊢
 have e1:(x*P) % 4294967296=(x % R)*P:=by rw [<- h4,Nat.mul_comm P R];exact Nat.mul_mod_mul_right P x R
 have e2:x % R < R:=Nat.mod_lt _ h5
 have e3:(x % R)*P+P<=4294967296:=by
  have := Nat.mul_le_mul_right P (show x % R+1<=R by omega)
  rw [Nat.add_mul,Nat.one_mul,Nat.mul_comm R P,h4] at this
  exact this
 have e4:x / R < P:=(Nat.div_lt_iff_lt_mul h5).2 (by rw [h4];exact hx)
 have e5:x*P=R*P*(x / R)+(x % R)*P:=by
  have := Nat.div_add_mod x R
  conv=>lhs;rw [<- this]
  rw [Nat.add_mul,Nat.mul_right_comm]
 rw [e1]
 refine ⟨?_,by omega,e4,?_⟩
 ·rw [u32_or_nat _ _ (by omega) (by omega),<- hP,Zmf n _ _ (by rw [hP];exact hm)]
 ·rw [e5,Nat.mul_comm R P,h4];omega
structure LeftAt (a:List Int) (n i m:Nat) (o:List Int):Prop where
 len:o.length=i
 dg:Dg 4294967296 o
 m1:m < 2 ^ n
 law:val 4294967296 o+pw 4294967296 i*m=val 4294967296 (a.take i)*((2 ^ n:Nat):Int)
theorem LeftAt.step {a:List Int} {n i m:Nat} {o:List Int} (h:LeftAt a n i m o) (hn:n < 32) {x:Nat} (hx:a.getD i 0=x) (hx1:x < 4294967296) :
  LeftAt a n (i+1) (x / 2 ^ (32 - n)) (o ++ [(((x*2 ^ n) % 4294967296+m:Nat):Int)]):=by
 obtain ⟨_,s2,s3,s4⟩:=Zn1 hn hx1 h.m1
 refine ⟨by simp [h.len],h.dg.app (Dg.one (by omega) (by omega)),s3,?_⟩
 rw [Zct,Zdm,h.len,Zen,hx,Int.add_mul,<- h.law]
 generalize pw 4294967296 i=M
 obtain ⟨z,hz⟩:∃ z,(x*2 ^ n) % 4294967296+m=z:=⟨_,rfl⟩
 obtain ⟨y,hy⟩:∃ y,x / 2 ^ (32 - n)=y:=⟨_,rfl⟩
 rw [hz,hy] at s4 ⊢
 have e1:M*(z:Int)+4294967296*M*(y:Int)=M*m+M*x*((2 ^ n:Nat):Int):=by
  rw [Int.mul_comm 4294967296 M,Int.mul_assoc,<- Int.mul_add,Int.mul_assoc,<- Int.mul_add,<- Int.natCast_mul]
  congr 1;omega
 omega
theorem Zpu {a:List Int} (ha:Dg 4294967296 a) (la:a.length<=1000000) (n:Nat) (hn:n < 32):∀ (d i m:Nat) (o:List Int),a.length - i=d->i<=a.length->LeftAt a n i m o ->
  ∃ R,Tells (fun k=>Za4.l0 k (n:Int) o (m:Int) a (a.length:Int) (i:Int)) R/\R.length=a.length+1/\Dg 4294967296 R/\val 4294967296 R=val 4294967296 a*((2 ^ n:Nat):Int)
 | 0,i,m,o,hd,hi,h=>by
  obtain rfl:i=a.length:=by omega
  have hlen:=h.len
  have c3:o.length < 35184372088832:=by omega
  have hm:=h.m1
  have h2:=Zgw hn
  refine ⟨o ++ [(m:Int)],?_,by simp [hlen],h.dg.app (Dg.one (by omega) (by omega)),?_⟩
  ·refine Tells.succ ?_
   simp only [Za4.l0]
   exact Tells.ifn (Int.lt_irrefl _) (Tells.ifp c3 (Tells.pure _))
  ·rw [Zdm,hlen,h.law,List.take_length]
 | d+1,i,m,o,hd,hi,h=>by
  obtain ⟨x,hx,hx1⟩:=dgL ha i
  obtain ⟨s1,s2,s3,s4⟩:=Zn1 hn hx1 h.m1
  obtain ⟨R,h1,h2,h3,h4⟩:=Zpu ha la n hn d (i+1) _ _ (by omega) (by omega) (h.step hn hx hx1)
  refine ⟨R,?_,h2,h3,h4⟩
  have hlen:=h.len
  have hp:=Zgw hn
  have c1:(i:Int) < (a.length:Int):=by omega
  have c2:(0:Int)<=(i:Int):=by omega
  have c3:o.length < 35184372088832:=by omega
  have c4:(0:Int)<=(n:Int):=by omega
  have c5:(0:Int)<=((32 - n:Nat):Int):=by omega
  have e2:(32:Int) - (n:Int)=((32 - n:Nat):Int):=by omega
  have e3:((x / 2 ^ (32 - n):Nat):Int) % 4294967296=((x / 2 ^ (32 - n):Nat):Int):=by
   obtain ⟨y,hy⟩:∃ y,x / 2 ^ (32 - n)=y:=⟨_,rfl⟩
   rw [hy] at s3 ⊢
   omega
  refine Tells.succ ?_
  simp only [Za4.l0]
  rw [rd_n,hx,w64s (by omega),shl32 (by omega) hx1,s1,e2,w64c (m:=32 - n) (by omega),u64n (m:=x) (by omega),Zqt (k:=.u64) (by show 32 - n<=64;omega),e3]
  exact Tells.ifp c1 (Tells.ifp c2 (Tells.ifp c1 (Tells.ifp c4 (Tells.ifp c3 (Tells.ifp c5 h1)))))
theorem Zjr {a:List Int} (ha:Dg 4294967296 a) (la:a.length<=1000000) (n:Nat) (hn:n < 32) :
  ∃ R,Tells (fun k=>Za4.f k a (n:Int)) R/\R.length=a.length+1/\Dg 4294967296 R/\val 4294967296 R=val 4294967296 a*((2 ^ n:Nat):Int):=by
 obtain ⟨R,h1,h2⟩:=Zpu ha la n hn a.length 0 0 [] (by omega) (by omega) ⟨rfl,Dg.nil _,two_pow_pos n,by simp [val]⟩
 refine ⟨R,?_,h2⟩
 unfold Za4.f
 rw [w64s (by omega)]
 exact Tells.ifp (by omega) (Tells.ifp (by omega) h1)
theorem Zn0 {x y n:Nat} (hn:n < 32) (hx:x < 4294967296) (hy:y < 4294967296):bits .or .u32 ((x / 2 ^ n:Nat):Int) (((y*2 ^ (32 - n)) % 4294967296:Nat):Int)=((x / 2 ^ n+(y % 2 ^ n)*2 ^ (32 - n):Nat):Int)/\x / 2 ^ n+(y % 2 ^ n)*2 ^ (32 - n) < 4294967296:=by
 have h3:=two_pow_pos n
 have h4:=Zh4 (n:=n) (by omega)
 have h5:=two_pow_pos (32 - n)
 obtain ⟨P,hP⟩:∃ P,2 ^ n=P:=⟨_,rfl⟩
 obtain ⟨R,hR⟩:∃ R,2 ^ (32 - n)=R:=⟨_,rfl⟩
 rw [hP] at h3 h4 ⊢
 rw [hR] at h4 h5 ⊢
 have e1:(y*R) % 4294967296=(y % P)*R:=by rw [<- h4];exact Nat.mul_mod_mul_right R y P
 have e2:y % P < P:=Nat.mod_lt _ h3
 have e3:x / P < R:=(Nat.div_lt_iff_lt_mul h3).2 (by rw [Nat.mul_comm,h4];exact hx)
 have e4:(y % P)*R+R<=4294967296:=by
  have := Nat.mul_le_mul_right R (show y % P+1<=P by omega)
  rw [Nat.add_mul,Nat.one_mul,h4] at this
  exact this
 rw [e1]
 refine ⟨?_,by omega⟩
 rw [u32_or_nat _ _ (by omega) (by omega),Nat.or_comm,<- hR,Zmf (32 - n) _ _ (by rw [hR];exact e3),Nat.add_comm]
structure RightAt (a:List Int) (n i:Nat) (o:List Int):Prop where
 len:o.length=a.length
 dg:Dg 4294967296 o
 law:val 4294967296 (o.take i)=(val 4294967296 a / ((2 ^ n:Nat):Int)) % pw 4294967296 i
 hi:∀ j,i<=j->o.getD j 0=0
theorem Zmu {a:List Int} (ha:Dg 4294967296 a) {i n:Nat} (hn:n < 32) {x y:Nat} (hx:a.getD i 0=x) (hy:a.getD (i+1) 0=y) (hx1:x < 4294967296) (hy1:y < 4294967296) :
  (val 4294967296 a / ((2 ^ n:Nat):Int)) % pw 4294967296 (i+1)=(val 4294967296 a / ((2 ^ n:Nat):Int)) % pw 4294967296 i+pw 4294967296 i*((x / 2 ^ n+(y % 2 ^ n)*2 ^ (32 - n):Nat):Int):=by
 obtain ⟨V,hV⟩:∃ V:Nat,val 4294967296 a=V:=⟨(val 4294967296 a).toNat,by have := Zbj (b:=4294967296) (by omega) ha;omega⟩
 have hlow:∀ j,∃ L H:Nat,V=L+4294967296 ^ j*H/\L < 4294967296 ^ j/\val 4294967296 (a.drop j)=H:=fun j=>by
  by_cases hj:j<=a.length
  ·have h1:=Zhn (b:=4294967296) a j hj
   have h2:=Zd2 (b:=4294967296) (by omega) (ha.take j)
   have h3:=Zbj (b:=4294967296) (by omega) (ha.take j)
   have h4:=Zbj (b:=4294967296) (by omega) (ha.drop j)
   rw [List.length_take,Nat.min_eq_left hj,pwL] at h2
   refine ⟨(val 4294967296 (a.take j)).toNat,(val 4294967296 (a.drop j)).toNat,?_,by omega,by omega⟩
   have e1:(((val 4294967296 (a.take j)).toNat:Nat):Int)=val 4294967296 (a.take j):=by omega
   have e2:(((val 4294967296 (a.drop j)).toNat:Nat):Int)=val 4294967296 (a.drop j):=by omega
   have:((V:Nat):Int)=(((val 4294967296 (a.take j)).toNat+4294967296 ^ j*(val 4294967296 (a.drop j)).toNat:Nat):Int):=by
    rw [Int.natCast_add,Int.natCast_mul,e1,e2,<- pwL,<- h1,hV]
   exact Int.ofNat.inj this
  ·refine ⟨V,0,by rw [Nat.mul_zero,Nat.add_zero],?_,by rw [List.drop_of_length_le (by omega)];rfl⟩
   have h2:=Zd2 (b:=4294967296) (by omega) ha
   rw [hV,pwL] at h2
   have h3:V < 4294967296 ^ a.length:=Int.ofNat_lt.1 h2
   exact Nat.lt_of_lt_of_le h3 (Nat.pow_le_pow_right (by omega) (by omega))
 obtain ⟨L,H,e1,e2,e3⟩:=hlow i
 obtain ⟨L2,H2,f1,f2,f3⟩:=hlow (i+1+1)
 have hH:H=x+4294967296*(y+4294967296*H2):=by
  have hd:∀ j,val 4294967296 (a.drop j)=a.getD j 0+4294967296*val 4294967296 (a.drop (j+1)):=fun j=>by
   by_cases hj:j < a.length
   ·rw [Zfs hj,Zbk]
   ·rw [List.drop_of_length_le (by omega),List.drop_of_length_le (by omega),Ze3 (by omega)];rfl
  have h1:=hd i
  rw [hd (i+1),hx,hy,e3,f3] at h1
  omega
 rw [hV,pwL,pwL]
 have key:V / 2 ^ n % 4294967296 ^ (i+1)=V / 2 ^ n % 4294967296 ^ i+4294967296 ^ i*(x / 2 ^ n+(y % 2 ^ n)*2 ^ (32 - n)):=by
  have h3:=two_pow_pos n
  have h4:=Zh4 (n:=n) (by omega)
  rw [Nat.pow_succ,Nat.mod_mul]
  congr 2
  rw [Nat.div_div_eq_div_mul,Nat.mul_comm (2 ^ n),<- Nat.div_div_eq_div_mul]
  have hVH:V / 4294967296 ^ i=H:=by
   rw [e1,Nat.add_mul_div_left _ _ (Nat.pow_pos (by omega)),Nat.div_eq_of_lt e2,Nat.zero_add]
  rw [hVH,hH]
  obtain ⟨P,hP⟩:∃ P,2 ^ n=P:=⟨_,rfl⟩
  obtain ⟨R,hR⟩:∃ R,2 ^ (32 - n)=R:=⟨_,rfl⟩
  rw [hP] at h3 h4 ⊢
  rw [hR] at h4 ⊢
  have g1:(x+4294967296*(y+4294967296*H2)) / P=x / P+R*(y+4294967296*H2):=by
   rw [<- h4,Nat.mul_assoc,Nat.add_mul_div_left _ _ h3]
  rw [g1]
  have g2:y=P*(y / P)+y % P:=(Nat.div_add_mod y P).symm
  have e3':x / P < R:=(Nat.div_lt_iff_lt_mul h3).2 (by rw [Nat.mul_comm,h4];exact hx1)
  have e2':y % P < P:=Nat.mod_lt _ h3
  have e4':(y % P)*R+R<=4294967296:=by
   have := Nat.mul_le_mul_right R (show y % P+1<=P by omega)
   rw [Nat.add_mul,Nat.one_mul,h4] at this
   exact this
  have g3:x / P+R*(y+4294967296*H2)=(x / P+(y % P)*R)+4294967296*(y / P+R*H2):=by
   conv=>lhs;rw [g2]
   rw [Nat.mul_add R (_+_),Nat.mul_add R (P*_),<- Nat.mul_assoc R P,Nat.mul_comm R P,h4,Nat.mul_left_comm R 4294967296 H2,Nat.mul_comm R (y % P),Nat.mul_add 4294967296]
   omega
  rw [g3,Nat.add_mul_mod_self_left,Nat.mod_eq_of_lt (by omega)]
 have k2:((V / 2 ^ n % 4294967296 ^ (i+1):Nat):Int)=((V / 2 ^ n % 4294967296 ^ i+4294967296 ^ i*(x / 2 ^ n+(y % 2 ^ n)*2 ^ (32 - n)):Nat):Int):=congrArg (fun z:Nat=>(z:Int)) key
 rw [Int.natCast_add,Int.natCast_emod,Int.natCast_emod,Int.natCast_mul,Int.natCast_ediv] at k2
 exact k2
theorem RightAt.start {a:List Int} (ha:Dg 4294967296 a) (n:Nat):RightAt a n 0 (List.replicate a.length 0) :=
 ⟨by simp,Dg.zeros (by omega) _,by simp [val,pw,Int.emod_one],fun j _=>by simp [List.getD,List.getElem?_replicate];split <;> rfl⟩
theorem RightAt.step {a:List Int} {n i:Nat} {o:List Int} (h:RightAt a n i o) (ha:Dg 4294967296 a) (hn:n < 32) (hi:i < a.length) {x y:Nat} (hx:a.getD i 0=x) (hy:a.getD (i+1) 0=y) (hx1:x < 4294967296) (hy1:y < 4294967296) :
  RightAt a n (i+1) (o.set i ((x / 2 ^ n+(y % 2 ^ n)*2 ^ (32 - n):Nat):Int)):=by
 obtain ⟨_,s2⟩:=Zn0 hn hx1 hy1
 have hlt:i < o.length:=by rw [h.len];exact hi
 refine ⟨by rw [List.length_set];exact h.len,Zh8 h.dg _ (Int.natCast_nonneg _) (Int.ofNat_lt.2 s2),?_,fun j hj=>?_⟩
 ·rw [Zct,Zmu ha hn hx hy hx1 hy1,<- h.law]
  congr 2
  ·rw [List.take_set_of_le (Nat.le_refl i)]
  ·rw [List.getD,List.getElem?_set_self hlt];rfl
 ·rw [getD_set_ne _ (by omega)];exact h.hi j (by omega)
theorem RightAt.done {a:List Int} {n:Nat} {o:List Int} (h:RightAt a n a.length o) (ha:Dg 4294967296 a):val 4294967296 o=((num a / 2 ^ n:Nat):Int):=by
 have hl:=h.law
 rw [List.take_of_length_le (by rw [h.len];exact Nat.le_refl _),<- Zdl ha,pwL,<- Int.natCast_ediv,<- Int.natCast_emod,Nat.mod_eq_of_lt (Nat.lt_of_le_of_lt (Nat.div_le_self _ _) (Zp6 ha))] at hl
 exact hl
theorem Znx {a:List Int} (ha:Dg 4294967296 a) (la:a.length<=1000000) (n:Nat) (hn:n < 32):∀ (d i:Nat) (o:List Int),a.length - i=d->i<=a.length->RightAt a n i o ->
  Tells (fun k=>Zad.l0 k a (n:Int) o a (a.length:Int) (i:Int)) (limbs (num a / 2 ^ n))
 | 0,i,o,hd,hi,h=>by
  obtain rfl:i=a.length:=by omega
  have hlen:=h.len
  have hT:=Zd1 h.dg (h.done ha) (by omega)
  refine Tells.succ ?_
  simp only [Zad.l0]
  exact Tells.ifn (Int.lt_irrefl _) (hT.bind (Tells.pure _))
 | d+1,i,o,hd,hi,h=>by
  have hil:i < a.length:=by omega
  obtain ⟨x,hx,hx1⟩:=dgL ha i
  obtain ⟨y,hy,hy1⟩:=dgL ha (i+1)
  obtain ⟨s1,s2⟩:=Zn0 hn hx1 hy1
  have ih:=Znx ha la n hn d (i+1) _ (by omega) (by omega) (h.step ha hn hil hx hy hx1 hy1)
  have hlen:=h.len
  have hlt:i < o.length:=by omega
  have hp:=Zgw hn
  have h3:=two_pow_pos n
  have c1:(i:Int) < (a.length:Int):=by omega
  have c2:(0:Int)<=(i:Int):=by omega
  have c3:(i:Int) < (o.length:Int):=by omega
  have c4:(0:Int)<=(n:Int):=by omega
  have c5:(0:Int)<=((32 - n:Nat):Int):=by omega
  have c6:(0:Int)<=((i+1:Nat):Int):=by omega
  have e2:(32:Int) - (n:Int)=((32 - n:Nat):Int):=by omega
  have hrd:(o.set i ((x / 2 ^ n:Nat):Int)).getD i 0=((x / 2 ^ n:Nat):Int):=by rw [List.getD,List.getElem?_set_self hlt];rfl
  have e5:y*2 ^ (32 - n) < 18446744073709551616:=by
   have h6:2 ^ (32 - n)<=4294967296:=Nat.le_trans (Nat.pow_le_pow_right (show 0 < 2 by omega) (show 32 - n<=32 by omega)) (by decide)
   have := Nat.mul_le_mul (show y<=4294967295 by omega) h6
   omega
  refine Tells.succ ?_
  simp only [Zad.l0]
  rw [rd_n,hx,w64s (by omega),Zqt (k:=.u32) (by show n<=32;omega),Int.toNat_natCast]
  refine Tells.ifp c1 (Tells.ifp c2 (Tells.ifp c1 (Tells.ifp c4 (Tells.ifp c3 ((Tells.pure _).bind ?_)))))
  rw [rd_n,rd_n,hy,hrd,e2,w64c (m:=32 - n) (by omega),u64n (m:=y) (by omega),shl64 (by omega) e5,emod32,s1,List.set_set]
  by_cases h1:i+1 < a.length
  ·exact Tells.ifp (by omega) (Tells.ifp c6 (Tells.ifp c5 ih))
  ·have hy0:y=0:=by have := Ze3 (l:=a) (i:=i+1) (by omega);omega
   rw [hy0,Nat.zero_mod,Nat.zero_mul,Nat.add_zero] at ih
   exact Tells.ifn (by omega) ih
theorem Zi9 {a:List Int} (ha:Dg 4294967296 a) (la:a.length<=1000000) (n:Nat) (hn:n < 32):Tells (fun k=>Zad.f k a (n:Int)) (limbs (num a / 2 ^ n)):=by
 have h:=Znx ha la n hn a.length 0 _ (by omega) (by omega) (RightAt.start ha n)
 unfold Zad.f
 rw [Int.toNat_natCast]
 exact Tells.ifp (by omega) (Tells.ifp (by omega) h)
theorem Zlj {h l:Nat} (h1:h < 4294967296) (h2:l < 4294967296):bits .or .u64 ((h*4294967296:Nat):Int) (l:Int)=((h*4294967296+l:Nat):Int):=by
 rw [u64_or_nat _ _ (by omega) (by omega)]
 have := Zmf 32 h l (by simpa using h2)
 rw [show (2:Nat) ^ 32=4294967296 from rfl] at this
 rw [this]
structure GuessAt (head low top second q r:Nat):Prop where
 law:q*top+r=head
 hi:head*4294967296+low < (q+1)*(top*4294967296+second)\/4294967296<=q+1
theorem Zhz {head low top second q r:Nat} (h:q*top+r=head):(r*4294967296+low < q*second) ↔ (head*4294967296+low < q*(top*4294967296+second)):=by
 rw [<- h,Nat.mul_add,<- Nat.mul_assoc,Nat.add_mul]
 omega
theorem Znk (low top second head:Nat) (hl:low < 4294967296) (ht:2147483648<=top) (ht2:top < 4294967296) (hs:second < 4294967296) (hh:head<=top*4294967296+4294967295) :
  ∀ (f q r:Nat),4294967296 - r<=f->r < 4294967296->q<=8589934592->GuessAt head low top second q r ->
  Tells (fun k=>Zbp.l0 k (low:Int) (top:Int) (second:Int) (q:Int) (r:Int)) ((min ((head*4294967296+low) / (top*4294967296+second)) 4294967295:Nat):Int)
 | 0,q,r,hf,hr,hq,h=>by omega
 | f+1,q,r,hf,hr,hq,h=>by
  have hlaw:=h.law
  have down:(4294967296<=q\/r*4294967296+low < q*second)->Tells (fun k=>Zbp.j1 k (low:Int) (top:Int) (second:Int) (q:Int) (r:Int) true) ((min ((head*4294967296+low) / (top*4294967296+second)) 4294967295:Nat):Int):=fun hbad=>by
   have hq0:0 < q:=by
    rcases hbad with hb|hb
    ·omega
    ·rcases Nat.eq_zero_or_pos q with e|e
     ·rw [e] at hb;omega
     ·exact e
   obtain ⟨p,rfl⟩:∃ p,q=p+1:=⟨q - 1,by omega⟩
   have hst:GuessAt head low top second p (r+top):=by
    refine ⟨by rw [<- hlaw,Nat.add_mul];omega,?_⟩
    rcases hbad with hb|hb
    ·exact .inr hb
    ·exact .inl ((Zhz hlaw).1 hb)
   have e1:((p+1:Nat):Int) - 1=(p:Int):=by omega
   refine Tells.succ ?_
   simp only [Zbp.j1]
   rw [e1,u64n (m:=p) (by omega),u64n (m:=top) (by omega),u64p (by omega),ediv32]
   refine Tells.ifp trivial ?_
   by_cases hbr:4294967296<=r+top
   ·refine Tells.ifp (by omega) ((Tells.pure _).val ?_)
    have hp:p < 4294967296:=by
     refine Nat.not_le.1 (fun hge=>?_)
     have := Nat.mul_le_mul_right top hge
     have := hst.law
     omega
    have hle:p*(top*4294967296+second)<=head*4294967296+low:=by
     have h0:¬ ((r+top)*4294967296+low < p*second):=by
      have := Nat.mul_le_mul (show p<=4294967295 by omega) (show second<=4294967295 by omega)
      omega
     exact Nat.not_lt.1 (fun hc=>h0 ((Zhz hst.law).2 hc))
    congr 1
    rcases hst.hi with hh2|hh2
    ·rw [Nat.div_eq_of_lt_le hle hh2,Nat.min_eq_left (by omega)]
    ·have := (Nat.le_div_iff_mul_le (show 0 < top*4294967296+second by omega)).2 hle
     rw [Nat.min_eq_right (by omega)];omega
   ·refine Tells.ifn (by omega) ?_
    exact Znk low top second head hl ht ht2 hs hh f p (r+top) (by omega) (by omega) (by omega) hst
  refine Tells.succ ?_
  simp only [Zbp.l0]
  rw [ediv32]
  by_cases hq1:4294967296<=q
  ·exact Tells.ifp (by omega) (down (.inl hq1))
  ·refine Tells.ifn (by omega) ?_
   obtain ⟨z,hz⟩:∃ z,q*second=z:=⟨_,rfl⟩
   have hzb:z < 18446744073709551616:=by
    have := Nat.mul_le_mul (show q<=4294967295 by omega) (show second<=4294967295 by omega)
    omega
   have e2:(r:Int)*4294967296=((r*4294967296:Nat):Int):=by omega
   rw [u64n (m:=second) (by omega),u64k hz hzb,e2,u64n (m:=r*4294967296) (by omega),u64n (m:=low) (by omega),Zlj hr hl]
   by_cases ht3:r*4294967296+low < z
   ·have e3:decide ((z:Int) > ((r*4294967296+low:Nat):Int))=true:=decide_eq_true (by omega)
    rw [e3]
    exact down (.inr (by rw [hz];exact ht3))
   ·have e3:decide ((z:Int) > ((r*4294967296+low:Nat):Int))=false:=decide_eq_false (by omega)
    rw [e3]
    refine Tells.succ ?_
    simp only [Zbp.j1]
    refine Tells.ifn (by simp) ((Tells.pure _).val ?_)
    have hle:q*(top*4294967296+second)<=head*4294967296+low:=Nat.not_lt.1 (fun hc=>ht3 (by rw [<- hz];exact (Zhz hlaw).2 hc))
    congr 1
    rcases h.hi with hh2|hh2
    ·rw [Nat.div_eq_of_lt_le hle hh2,Nat.min_eq_left (by omega)]
    ·have := (Nat.le_div_iff_mul_le (show 0 < top*4294967296+second by omega)).2 hle
     rw [Nat.min_eq_right (by omega)];omega
theorem Zl5 (high next low top second:Nat) (h1:high<=top) (h2:next < 4294967296) (hl:low < 4294967296) (ht:2147483648<=top) (ht2:top < 4294967296) (hs:second < 4294967296) :
  Tells (fun k=>Zbp.f k (high:Int) (next:Int) (low:Int) (top:Int) (second:Int)) ((min (((high*4294967296+next)*4294967296+low) / (top*4294967296+second)) 4294967295:Nat):Int):=by
 obtain ⟨head,hh⟩:∃ head,high*4294967296+next=head:=⟨_,rfl⟩
 have hhb:head<=top*4294967296+4294967295:=by omega
 have hr:head % top < top:=Nat.mod_lt _ (by omega)
 have hq:head / top<=8589934592:=by
  have:head / top < 8589934592:=(Nat.div_lt_iff_lt_mul (show 0 < top by omega)).2 (by omega)
  omega
 have hg:GuessAt head low top second (head / top) (head % top):=by
  refine ⟨by rw [Nat.mul_comm];exact Nat.div_add_mod head top,.inl ?_⟩
  have := Nat.div_add_mod head top
  have h3:head+1<=(head / top+1)*top:=by rw [Nat.add_mul,Nat.mul_comm (head / top)];omega
  have h4:=Nat.mul_le_mul_right 4294967296 h3
  rw [Nat.mul_add (head / top+1),<- Nat.mul_assoc]
  omega
 have h:=Znk low top second head hl ht ht2 hs hhb _ _ _ (Nat.le_refl _) (by omega) hq hg
 have e1:(high:Int)*4294967296=((high*4294967296:Nat):Int):=by omega
 have e2:Int.tdiv (head:Int) (top:Int)=((head / top:Nat):Int):=by rw [Int.tdiv_eq_ediv_of_nonneg (by omega)];exact (Int.natCast_ediv _ _).symm
 have e3:Int.tmod (head:Int) (top:Int)=((head % top:Nat):Int):=by rw [Int.tmod_eq_emod_of_nonneg (by omega)];exact (Int.natCast_emod _ _).symm
 have c1:¬ ((top:Int)=0):=by omega
 unfold Zbp.f
 rw [u64n (m:=high) (by omega),u64n (m:=next) (by omega),u64n (m:=top) (by omega),e1,u64n (m:=high*4294967296) (by omega),Zlj (by omega) h2,hh,e2,e3,u64n (m:=head / top) (by omega)]
 exact Tells.ifn c1 h
end YtjbjkmccfocikaaGreatDoor.P
end
section
namespace YtjbjkmccfocikaaGreatDoor.B
open Go.RowKit YtjbjkmccfocikaaGreatDoorW.PrintWords YtjbjkmccfocikaaGreatDoorW.PrintLast YtjbjkmccfocikaaGreatDoorW.PrintMore
attribute [local go_sem] Zch Zci Zc9 Zda Zb1 Zb2 Zcp Zcq
def Za2.f (l0:List Int):Option (Int):=if (l0.length:Int) > 256 then (some 5) else (if (l0.length:Int) > 0 then (if 0<=(wrap64 ((l0.length:Int) - 1)) then (if (wrap64 ((l0.length:Int) - 1)) < (l0.length:Int) then (if (rd l0 (wrap64 ((l0.length:Int) - 1)))=0 then (some 9) else (some 0)) else (none)) else (none)) else (some 0))
theorem Za2.calls (A0:Option Addr) (c0:Nat) (l0:List Int) (r:Int) (w:World) (hr0:Kd.C (Kd.int .u32) w A0 l0.length l0) (hc0:l0.length<=c0) (h:Za2.f l0=some r) :
  Calls Tryz.prog 108 #[.slice A0 l0.length c0] w fun e w'=>e=.returned (.int .i64 r)/\Drawn0 w w':=by
 have HR0:=am hr0
 have HC0:=am hc0
 clear hr0 hc0
 have H:(if (l0.length:Int) > 256 then (some 5) else (if (l0.length:Int) > 0 then (if 0<=(wrap64 ((l0.length:Int) - 1)) then (if (wrap64 ((l0.length:Int) - 1)) < (l0.length:Int) then (if (rd l0 (wrap64 ((l0.length:Int) - 1)))=0 then (some 9) else (some 0)) else (none)) else (none)) else (some 0)))=some r:=h
 clear h
 by_cases c2:(l0.length:Int) > 256
 ·rw [if_pos c2] at H
  have c2b0:decide (256 < (l0.length:Int))=true:=decide_eq_true c2
  have c2b1:decide (256 < l0.length)=true:=decide_eq_true (by omega)
  clear c2
  obtain rfl:=Option.some.inj H
  go_enter Tryz.func108,Tryz.ntmps108
  go_wp2
  go_ret
  exact ⟨pR,pD⟩
 ·rw [if_neg c2] at H
  have c2b0:decide (256 < (l0.length:Int))=false:=decide_eq_false c2
  have c2b1:decide (256 < l0.length)=false:=decide_eq_false (by omega)
  clear c2
  by_cases c3:(l0.length:Int) > 0
  ·rw [if_pos c3] at H
   have c3b0:decide (0 < (l0.length:Int))=true:=decide_eq_true c3
   have c3b1:decide (0 < l0.length)=true:=decide_eq_true (by omega)
   clear c3
   obtain ⟨ji4,hji4⟩:∃ j_:Int,(wrap64 ((l0.length:Int) - 1))=j_:=⟨_,rfl⟩
   replace H:(if 0<=(ji4) then (if (ji4) < (l0.length:Int) then (if (rd l0 (ji4))=0 then (some 9) else (some 0)) else (none)) else (none))=some r:=by first|(rw [hji4] at H;exact H)|(simp only [hji4] at H ⊢;exact H)
   have hji4w:(IntKind.i64.wrap ((l0.length:Int) - 1))=ji4:=(Zb9 _).trans hji4
   replace H:=dI H
   rcases H with ⟨c5b0,H⟩|⟨_,H⟩
   ·replace H:=dI H
    rcases H with ⟨c6b0,H⟩|⟨_,H⟩
    ·replace H:=eI H
     rcases H with ⟨c7b0,c7b1,H⟩|⟨c7,c7b0,c7b1,H⟩
     ·obtain rfl:=Option.some.inj H
      have qa:0<=((ji4):Int):=of_decide_eq_true pQ
      have qb:(ji4) < (l0.length:Int):=of_decide_eq_true pQ
      obtain ⟨qe,qd,qc⟩:=Kd.Zay HR0.o (ji4) qa qb
      cases qd
      replace qa:=eq_true qa
      replace qb:=eq_true qb
      go_enter Tryz.func108,Tryz.ntmps108
      go_wp2
      go_ret
      exact ⟨by first|rfl|(simp;done)|(simp only [<- hji4] <;> (first|rfl|simp))|(simp [*];done),pD⟩
     ·obtain rfl:=Option.some.inj H
      have qa:0<=((ji4):Int):=of_decide_eq_true pQ
      have qb:(ji4) < (l0.length:Int):=of_decide_eq_true pQ
      obtain ⟨qe,qd,qc⟩:=Kd.Zay HR0.o (ji4) qa qb
      cases qd
      replace qa:=eq_true qa
      replace qb:=eq_true qb
      go_enter Tryz.func108,Tryz.ntmps108
      go_wp2
      go_ret
      exact ⟨by first|rfl|(simp;done)|(simp only [<- hji4] <;> (first|rfl|simp))|(simp [*];done),pD⟩
    ·cases H
   ·cases H
  ·rw [if_neg c3] at H
   have c3b0:decide (0 < (l0.length:Int))=false:=decide_eq_false c3
   have c3b1:decide (0 < l0.length)=false:=decide_eq_false (by omega)
   clear c3
   obtain rfl:=Option.some.inj H
   go_enter Tryz.func108,Tryz.ntmps108
   go_wp2
   go_ret
   exact ⟨pR,pD⟩
def Zr.l0:Nat->List Int->Int->Int->Option (List Int)
 | 0,_,_,_=>none
 | k+1,x0,x2,x3=>if x2 < x3 then (if 0<=x3 then (if x3 < (x0.length:Int) then (if 0<=x2 then (if x2 < (x0.length:Int) then (Zr.l0 k ((x0.set (x2:Int).toNat (rd x0 x3)).set (x3:Int).toNat (rd x0 x2)) (wrap64 (x2+1)) (wrap64 (x3 - 1))) else (none)) else (none)) else (none)) else (none)) else (some x0)
def Zr.f (k:Nat) (l0:List Int):Option (List Int):=Zr.l0 k l0 0 (wrap64 ((l0.length:Int) - 1))
def Zr.T3:Bool × List (List Nat × List Nat):=(true,[([],[]),([],[]),([],[]),([],[]),([],[]),([],[]),([4,5],[4,5]),([6],[6]),([],[]),([],[]),([8,9],[8,9]),([10],[10]),([0,1,0,1,4,5,6,7,11],[0,1]),([12,7,0,1,4,5,6,7,11],[7,12]),([2,3,0,1,2,3,4,5,6,7,8,9,10,11,12,13],[2,3]),([14,11,13,0,1,2,3,4,5,6,7,8,9,10,11,12,13],[11,14])])
def Zr.B3:List Nat:=[0,0,0,0,0,0,48,112,0,0,768,1792,4083,8179,16383,32767]
theorem Zr.tab3:rtab .any (opsOf Tryz.f144 3)=Zr.T3:=by kernel_rfl
theorem Zr.bits3:waitsOk Zr.T3.2 Zr.B3=true:=by kernel_rfl
theorem Zr.calls (k:Nat) (P0_:Nat->Prop) (u9000_:Value) (l0:List Int) (r:List Int) (w0 w:World) (hB:Below w0.heap.size w0 w) (ho0:Kd.R (Kd.int .u8) 5 w w0.heap.size P0_ u9000_ l0) (h:Zr.f k l0=some r) :
  Calls Tryz.prog 144 #[u9000_] w fun e w'=>e=.returned (.tuple #[])/\Kd.R (Kd.int .u8) 5 w' w0.heap.size (fun k_=>(P0_ k_\/w.heap.size<=k_)) u9000_ r/\Below w0.heap.size w0 w'/\Kept w w' (fun k_=>P0_ k_):=by
 have HO0:=am (show Kd.R (Kd.int .u8) 5 w w0.heap.size (fun k_=>(P0_ k_\/w.heap.size<=k_)) u9000_ l0 from Kd.Zo ho0 (fun k_ hk=>(.inl hk)))
 have HK:=am (Kept.refl w (fun k_=>P0_ k_))
 have HW0:=am hB.size
 have HB:=am hB
 clear hB
 have H:(Zr.l0 k l0 0 (wrap64 ((l0.length:Int) - 1)))=some r:=h
 clear h
 have H':=am H
 clear H
 obtain ⟨Ao2,co2,eo2⟩:=Kd.Zh HO0.o
 subst eo2
 go_enter Tryz.func144,Tryz.ntmps144
 go_wp2
 go_loopg [2,3] k (fun kq v2 v3 w' => ∃ (x0_1:List Int) (x2_1:Int) (x3_1:Int),v2=.int .i64 x2_1/\v3=.int .i64 x3_1/\Aside0 (Zr.l0 kq x0_1 x2_1 x3_1=some r)/\Aside0 (kq<=k)/\Aside0 (Kd.R (Kd.int .u8) 5 w' w0.heap.size (fun k_=>(P0_ k_\/w.heap.size<=k_)) (.slice Ao2 l0.length co2) x0_1)/\Aside0 (Kept w w' (fun k_=>P0_ k_))/\Aside0 (Below w0.heap.size w0 w'))
 case atStart=>exact ⟨(l0),(0),(wrap64 ((l0.length:Int) - 1)),pR,pR,H',⟨Nat.le_refl _⟩,⟨by refine rp ?_;exact HO0.o⟩,⟨by repeat (first|(with_reducible first|exact HK.out|apply Kept.alloc|apply Kept.drewN|apply Kept.drew)|exact HK.out)⟩,⟨pB⟩⟩
 case round =>
  clear H'
  obtain ⟨x0_1,x2_1,x3_1,rfl,rfl,HA,HK1,HO_0,HK,HB⟩:=hrel
  have hl0_1:=(Kd.Zc HO_0.o).1
  rw [hl0_1] at HO_0
  (try simp only [hl0_1])
  cases gk with
  | zero=>exact absurd HA.out (by simp [Zr.l0])
  | succ k1 =>
   have H:=HA.out
   clear HA
   simp only [Zr.l0] at H
   replace H:=dI H
   rcases H with ⟨c3b0,H⟩|⟨c3b0,H⟩
   ·replace H:=dI H
    rcases H with ⟨c4b0,H⟩|⟨_,H⟩
    ·replace H:=dI H
     rcases H with ⟨c5b0,H⟩|⟨_,H⟩
     ·replace H:=dI H
      rcases H with ⟨c6b0,H⟩|⟨_,H⟩
      ·replace H:=dI H
       rcases H with ⟨c7b0,H⟩|⟨_,H⟩
       ·obtain ⟨qm,qc⟩:∃ y_:List Int,y_=(x0_1.set (x2_1:Int).toNat (rd x0_1 x3_1)):=⟨_,rfl⟩
        replace H:(Zr.l0 k1 (qm.set (x3_1:Int).toNat (rd x0_1 x2_1)) (wrap64 (x2_1+1)) (wrap64 (x3_1 - 1)))=some r:=by have hy_:=qc;exact pH
        have qi:=am qc
        clear qc
        obtain ⟨qn,qd⟩:∃ y_:List Int,y_=(qm.set (x3_1:Int).toNat (rd x0_1 x2_1)):=⟨_,rfl⟩
        replace H:(Zr.l0 k1 qn (wrap64 (x2_1+1)) (wrap64 (x3_1 - 1)))=some r:=by have hy_:=qd;exact pH
        have qj:=am qd
        clear qd
        have H':=am H
        clear H
        try go_wp2
        replace HO_0:=am (Kd.Zh5 HO_0.o)
        replace HK:=am (Kept.drew HK.out)
        replace HB:=am (Zbh HB.o)
        have qe:0<=(x3_1:Int):=of_decide_eq_true pQ
        have qg:x3_1 < (x0_1.length:Int):=of_decide_eq_true pQ
        obtain ⟨qk,qo,qa⟩:=Kd.Zay (Kd.Zc HO_0.o).2.2 x3_1 qe qg
        cases qo
        replace qe:=eq_true qe
        replace qg:=eq_true qg
        have qf:0<=(x2_1:Int):=of_decide_eq_true pQ
        have qh:x2_1 < (x0_1.length:Int):=of_decide_eq_true pQ
        obtain ⟨ql,qp,qb⟩:=Kd.Zay (Kd.Zc HO_0.o).2.2 x2_1 qf qh
        obtain rfl:qk=ql:=(by injection qp)
        replace qf:=eq_true qf
        replace qh:=eq_true qh
        have p8:0<=(x2_1:Int):=of_decide_eq_true pQ
        have q8:(x2_1:Int) < ((x0_1.length:Int):Int):=of_decide_eq_true pQ
        obtain ⟨go8,co8,eo8,gb8,gl8,cl8,HG8⟩:=Kd.Zin HO_0.o (by omega)
        (first|cases eo8|(injection eo8 with ea_ en_ ec_;(first|subst ea_|(injection ea_ with ea_;subst ea_));subst ec_;clear en_))
        have GB8:=am gb8
        have GG8:=am HG8
        clear gb8 gl8 HG8
        have HMgo8:=am (show (P0_ go8\/w.heap.size<=go8) from (HO_0.o.1 _ rfl))
        (first|simp only [add_plain] at qa|skip)
        (first|simp only [add_plain] at qb|skip)
        obtain ⟨hx8_0,hf8_0⟩:=Kd.Zfk 0 HO_0.o (x2_1:Int) p8 q8
        replace p8:=eq_true p8
        replace q8:=eq_true q8
        have HP11:=Kd.Zpb HO_0.o (x2_1:Int) (rd x0_1 x3_1)
        rw [<- qi.out] at HP11
        have HQ11:=am HP11
        clear HP11
        have p9:0<=(x3_1:Int):=of_decide_eq_true pQ
        have q9:(x3_1:Int) < ((x0_1.length:Int):Int):=of_decide_eq_true pQ
        obtain ⟨hx9_0,hf9_0⟩:=Kd.Zfk 0 HQ11.out (x3_1:Int) p9 q9
        replace p9:=eq_true p9
        replace q9:=eq_true q9
        have HP12:=Kd.Zpb HQ11.out (x3_1:Int) (rd x0_1 x2_1)
        rw [<- qj.out] at HP12
        have HQ12:=am HP12
        clear HP12
        refine start_ (n:=16) (S:=fun w'=>w'.cell? ⟨go8,(x3_1).toNat,none⟩=some (.int .u8 (rd x0_1 x3_1))/\w'.cell? ⟨go8,(x2_1).toNat,none⟩=some (.int .u8 (rd x0_1 x2_1))) (ds:=[13,15]) #[false,false,false,false,false,false,false,false,false,false,false,false,false,false,false,false] (by kernel_rfl) rfl rfl ⟨qa,qb⟩ (fun hHeld=>?_);refine Zdo Zr.tab3 Zr.bits3 (fun HT_ HW_=>?_)
        generalize wr.drew=w10 at HO_0 HK HB GG8 HQ11 HQ12 hf8_0 hf9_0 qa qb hx8_0 hx9_0 hHeld ⊢
        refine pu 0 (some 14) #[true,false,false,false,false,false,false,false,false,false,false,false,false,false,false,false] (h:=?_)
        refine pu 1 (some 15) #[true,true,false,false,false,false,false,false,false,false,false,false,false,false,false,false] (h:=?_)
        refine pu 2 (some 16) #[true,true,true,false,false,false,false,false,false,false,false,false,false,false,false,false] (h:=?_)
        refine pu 3 (some 17) #[true,true,true,true,false,false,false,false,false,false,false,false,false,false,false,false] (h:=?_)
        refine pu 4 (some 18) #[true,true,true,true,true,false,false,false,false,false,false,false,false,false,false,false] (h:=?_)
        refine pu 5 (some 19) #[true,true,true,true,true,true,false,false,false,false,false,false,false,false,false,false] (h:=?_)
        refine pu 6 (some 20) #[true,true,true,true,true,true,true,false,false,false,false,false,false,false,false,false] (h:=?_)
        refine pu 8 (some 22) #[true,true,true,true,true,true,true,false,true,false,false,false,false,false,false,false] (h:=?_)
        refine pu 9 (some 23) #[true,true,true,true,true,true,true,false,true,true,false,false,false,false,false,false] (h:=?_)
        refine pu 10 (some 24) #[true,true,true,true,true,true,true,false,true,true,true,false,false,false,false,false] (h:=?_)
        refine take_ (i:=7) (N:=some 21) (v:=?_) (a':=?_) #[true,true,true,true,true,true,true,true,true,true,true,false,false,false,false,false] rfl rfl (Zcs HT_.out HW_.out (by kernel_rfl)) (fun _ _ _ h=>h) (Or.inl ⟨by rfl,?_⟩) hHeld ?_ ?_
        rotate_left
        ·rintro w' ⟨s0,s1⟩
         go_simp
         with_reducible rfl
        rotate_left
        ·exact pP
        refine take_ (i:=11) (N:=some 25) (v:=?_) (a':=?_) #[true,true,true,true,true,true,true,true,true,true,true,true,false,false,false,false] rfl rfl (Zcs HT_.out HW_.out (by kernel_rfl)) (fun _ _ _ h=>h) (Or.inl ⟨by rfl,?_⟩) hHeld ?_ ?_
        rotate_left
        ·rintro w' ⟨s0,s1⟩
         go_simp
         with_reducible rfl
        rotate_left
        ·exact pP
        refine pu 12 (some 26) #[true,true,true,true,true,true,true,true,true,true,true,true,true,false,false,false] (h:=?_)
        refine last_ (i:=13) (N:=none) #[true,true,true,true,true,true,true,true,true,true,true,true,true,true,false,false] rfl rfl (Zc6 HT_.out (by kernel_rfl)) (by decide) (fun K hK=>?_)
        refine skip_ (w1:=?_) (by rfl) rfl ?_ ?_
        rotate_left
        ·go_simp
         rfl
        refine hK.out _ _ ?_
        clear hK K
        refine pu 14 (some 27) #[true,true,true,true,true,true,true,true,true,true,true,true,true,true,true,false] (h:=?_)
        refine last_ (i:=15) (N:=none) #[true,true,true,true,true,true,true,true,true,true,true,true,true,true,true,true] rfl rfl (Zc6 HT_.out (by kernel_rfl)) (by decide) (fun K hK=>?_)
        refine skip_ (w1:=?_) (by rfl) rfl ?_ ?_
        rotate_left
        ·go_simp
         rfl
        refine hK.out _ _ ?_
        clear hK K
        refine done_ (Zex HT_.out (by kernel_rfl)) ?_
        try go_wp2
        (try simp only [<- hl0_1])
        go_roundg k1
        case measure=>exact pM
        case rel=>exact ⟨(qn),(wrap64 (x2_1+1)),(wrap64 (x3_1 - 1)),pR,pR,H',pJ,⟨by (try simp only [hl0_1]);refine rp ?_;exact HQ12.out⟩,⟨by repeat (first|(with_reducible first|exact HK.out|apply Kept.alloc|apply Kept.drewN|apply Kept.drew|refine Kept.setCell ?_ HMgo8.out _|refine Kept.setCell ?_ HMgo8.out _)|exact HK.out)⟩,⟨by repeat (first|(with_reducible first|exact HB.o|apply Zck|apply Zaz|apply Zbh|refine Zdn ?_ GB8.out|refine Zdn ?_ GB8.out)|exact HB.o)⟩⟩
       ·cases H
      ·cases H
     ·cases H
    ·cases H
   ·obtain rfl:=Option.some.inj H
    go_wp2
    first|go_end0|((try simp only [Exit.inBlock,Exit.then]);refine bodyPost_ret (results_none rfl _ _ _) rfl ?_)
    exact ⟨pE,(by first|exact (Kd.Za HO_0.o pl)|(simp only [hl0_1];exact (Kd.Za HO_0.o pl))),pB,by repeat (first|(with_reducible first|exact HK.out|apply Kept.alloc|apply Kept.drewN|apply Kept.drew)|exact HK.out)⟩
end YtjbjkmccfocikaaGreatDoor.B
end
end Go.Proofs
