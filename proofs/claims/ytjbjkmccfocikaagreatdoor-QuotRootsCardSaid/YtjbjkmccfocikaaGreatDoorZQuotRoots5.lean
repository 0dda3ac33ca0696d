/- QuotRoots, part 6 of 7 of its proof (no condition); names with a low line are shortened throughout. -/
import Derived.Test.YtjbjkmccfocikaaGreatDoorZQuotRoots4
import Derived.KernelRfl
set_option linter.unusedVariables false
set_option linter.unusedSimpArgs false
set_option maxRecDepth 100000
set_option maxHeartbeats 8000000
namespace Go.Proofs
section
namespace YtjbjkmccfocikaaGreatDoor.B
open Go.RowKit YtjbjkmccfocikaaGreatDoorW.PrintWords YtjbjkmccfocikaaGreatDoorW.PrintLast YtjbjkmccfocikaaGreatDoorW.PrintMore
attribute [local go_sem] Zb7 Zb9 Zcu Zcv Zbt Zbu Zb8 Zca
mutual
def Zg.j0:Nat->ByteArray->Bool->Option (Bool × List Int × Int × Int)
 | 0,_,_=>none
 | k + 1,x0,x18=>if x18=true then (some (false,([]:List Int),0,32)) else (if (x0.size:Int) > 2000 then (some (false,([]:List Int),0,5)) else (if 0 < (x0.size:Int) then (Zg.l0 k x0 ([]:List Int) false 0 ((bt x0 0) == 45) 0) else (none)))
def Zg.l0:Nat->ByteArray->List Int->Bool->Int->Bool->Int->Option (Bool × List Int × Int × Int)
 | 0,_,_,_,_,_,_=>none
 | k + 1,x0,x7,x8,x9,x544000,x544002=>if x9 < (x0.size:Int) then (if 0<=x9 then (if (bt x0 x9)=101 then (Zg.j2 k x0 x7 x8 x9 false x544000 x544002) else (Zg.j2 k x0 x7 x8 x9 ((bt x0 x9) != 69) x544000 x544002)) else (none)) else (Zg.j2 k x0 x7 x8 x9 false x544000 x544002)
def Zg.j2:Nat->ByteArray->List Int->Bool->Int->Bool->Bool->Int->Option (Bool × List Int × Int × Int)
 | 0,_,_,_,_,_,_,_=>none
 | k + 1,x0,x7,x8,x9,x52,x544000,x544002=>if x52=true then (if 0<=x9 then (if x9 < (x0.size:Int) then (if (bt x0 x9)=46 then (Zg.l0 k x0 x7 true (wrap64 (x9 + 1)) x544000 x544002) else (if (bt x0 x9)=45 then (Zg.l0 k x0 x7 x8 (wrap64 (x9 + 1)) x544000 x544002) else ((some (([((bt x0 x9) - 48) % 256]:List Int):List Int)).bind fun y544=>(if y544.length + x7.length < 17592186044416 then ((some (y544 ++ x7:List Int)).bind fun y547=>(if x8=true then (Zg.l0 k x0 y547 x8 (wrap64 (x9 + 1)) x544000 (wrap64 (x544002 - 1))) else (Zg.l0 k x0 y547 x8 (wrap64 (x9 + 1)) x544000 x544002))) else (none))))) else (none)) else (none)) else (if x9 < (x0.size:Int) then (Zg.l1 k x0 x7 (wrap64 (x9 + 1)) false 0 0 x544000 x544002) else ((Zo.f k x544000 x7 x544002).bind fun bt562=>(some (bt562.1,bt562.2.1,bt562.2.2.1,bt562.2.2.2))))
def Zg.l1:Nat->ByteArray->List Int->Int->Bool->Int->Int->Bool->Int->Option (Bool × List Int × Int × Int)
 | 0,_,_,_,_,_,_,_,_=>none
 | k + 1,x0,x7,x9,x10,x11,x12,x544000,x544002=>if x9 < (x0.size:Int) then (if 0<=x9 then (if (bt x0 x9)=45 then (Zg.l1 k x0 x7 (wrap64 (x9 + 1)) true x11 x12 x544000 x544002) else (if (bt x0 x9)=43 then (Zg.l1 k x0 x7 (wrap64 (x9 + 1)) x10 x11 x12 x544000 x544002) else (if x11 > 0 then (Zg.j4 k x0 x7 x9 x10 x11 x12 true x544000 x544002) else (Zg.j4 k x0 x7 x9 x10 x11 x12 ((bt x0 x9) != 48) x544000 x544002)))) else (none)) else (if x10=true then ((Zo.f k x544000 x7 (wrap64 (x544002 + (wrap64 (-x11))))).bind fun bt550=>(some (bt550.1,bt550.2.1,bt550.2.2.1,bt550.2.2.2))) else ((Zo.f k x544000 x7 (wrap64 (x544002 + x11))).bind fun bt556=>(some (bt556.1,bt556.2.1,bt556.2.2.1,bt556.2.2.2))))
def Zg.j4:Nat->ByteArray->List Int->Int->Bool->Int->Int->Bool->Bool->Int->Option (Bool × List Int × Int × Int)
 | 0,_,_,_,_,_,_,_,_,_=>none
 | k + 1,x0,x7,x9,x10,x11,x12,x107,x544000,x544002=>if x107=true then (if (wrap64 (x12 + 1)) > 6 then (some (false,([]:List Int),0,52)) else (if 0<=x9 then (if x9 < (x0.size:Int) then (Zg.l1 k x0 x7 (wrap64 (x9 + 1)) x10 (wrap64 ((wrap64 (10 * x11)) + (((bt x0 x9) - 48) % 256))) (wrap64 (x12 + 1)) x544000 x544002) else (none)) else (none))) else (if x12 > 6 then (some (false,([]:List Int),0,52)) else (if 0<=x9 then (if x9 < (x0.size:Int) then (Zg.l1 k x0 x7 (wrap64 (x9 + 1)) x10 (wrap64 ((wrap64 (10 * x11)) + (((bt x0 x9) - 48) % 256))) x12 x544000 x544002) else (none)) else (none)))
end
def Zg.f (k:Nat) (a0:ByteArray):Option (Bool × List Int × Int × Int):=(Ze.f k a0 0).bind fun bt541=>(if bt541.2=true then (Zg.j0 k a0 (bt541.1 != (a0.size:Int))) else (Zg.j0 k a0 true))
theorem Zg.calls (k:Nat) (a0:ByteArray) (r1:Bool) (r2:List Int) (r3:Int) (r4:Int) (w:World) (h:Zg.f k a0=some (r1,r2,r3,r4)) :
  Calls Tryz.prog 58 #[.string a0] w fun e w' => ∃ v1_:Value,e=.returned (.tuple #[.agg #[.bool r1,v1_,.int .i64 r3],.int .i64 r4])/\Kd.R (Kd.int .u32) 85 w' w.heap.size (fun _=>True) v1_ r2/\Below w.heap.size w w':=by
 have hu24:=Tryz.underlying24
 have hu30:=Tryz.underlying30
 have HB:=am (Below.refl w.heap.size w)
 have H:((Ze.f k a0 0).bind fun bt541=>(if bt541.2=true then (Zg.j0 k a0 (bt541.1 != (a0.size:Int))) else (Zg.j0 k a0 true)))=some (r1,r2,r3,r4):=h
 clear h
 obtain ⟨⟨t541,t542⟩,A2,H⟩:=ob H;(try dsimp only at H)
 have HC3:=am H
 clear H
 go_enter Tryz.func58,Tryz.ntmps58
 go_upto_region 2 with (first|((with_reducible refine gd 2 ?_);(try (refine Zas (by rfl) ?_;dsimp only));refine bx 2 #[.bool false,.slice none 0 0,.int .i64 0] 24 (h:=?_);intro gb540 hg w4 hbox hb;have BK540:=am hbox;have GW540:=gW hg;have GE540:=gW hg;replace HB:=bS hb;clear hb hbox hg)|(refine gL (some 15) Tryz.func117 #[.string a0,.int .i64 0] (h:=?_);(with_reducible refine (Ze.calls k a0 0 t541 t542 _ A2.out).mono ?_);rintro e w' ⟨rfl,⟨nd,rfl⟩⟩;refine ⟨_,rfl,?_⟩))
 (try simp only [Act.put,List.setIfInBounds_toArray,List.set_cons_zero,List.set_cons_succ])
 go_cut [18] (fun v18 wc => ∃ (kq:Nat) (x18_2:Bool),v18=.bool x18_2/\Aside0 (Zg.j0 kq a0 x18_2=some (r1,r2,r3,r4))/\Aside0 (kq<=k)/\Aside0 (wc.heap[gb540]? = some (.cells #[.bool false,(.slice none 0 0),.int .i64 0] 24 (0,0)))/\Aside0 (Below w.heap.size w wc))
 case first =>
  have H:=HC3.out
  clear HC3
  by_cases c5:t542=true
  ·subst c5
   rw [if_pos rfl] at H
   have H':=am H
   clear H
   go_wp2
   go_meet
   case rel=>exact ⟨_,((t541 != (a0.size:Int))),pR,H',⟨by first|omega|exact Nat.le_refl _⟩,⟨Zc BK540.out pl⟩,⟨pB⟩⟩
  ·replace c5:=Bool.eq_false_iff.mpr c5
   subst c5
   rw [if_neg (show ¬ (false=true) by decide)] at H
   have H':=am H
   clear H
   go_wp2
   go_meet
   case rel=>exact ⟨_,(true),pR,H',⟨by first|omega|exact Nat.le_refl _⟩,⟨Zc BK540.out pl⟩,⟨pB⟩⟩
 case rest =>
  clear HC3
  obtain ⟨kq,x18_2,rfl,HA,HJ2,BK540,HB⟩:=hcut
  cases kq with
  | zero=>exact absurd HA.out (by simp [Zg.j0])
  | succ kj2 =>
   have H:=HA.out
   clear HA
   simp only [Zg.j0] at H
   by_cases c6:x18_2=true
   ·subst c6
    rw [if_pos rfl] at H
    simp only [Option.some.injEq,Prod.mk.injEq] at H
    obtain ⟨rfl,rfl,rfl,rfl⟩:=H
    obtain ⟨hcz7_0,hcz7_1,hcz7_2,hfz7_0,hfz7_1,hfz7_2⟩:=cEc BK540.out
    go_wp2
    refine bodyPost_ret (Za8 rfl _ _ gb540 24 #[.bool false,.slice none 0 0,.int .i64 0] (0,0) _ rfl (by exact p3 BK540) Tryz.underlying24 rfl (by kernel_rfl)) rfl ?_
    exact ⟨_,pE,pN,pB⟩
   ·replace c6:=Bool.eq_false_iff.mpr c6
    subst c6
    rw [if_neg (show ¬ (false=true) by decide)] at H
    by_cases c8:(a0.size:Int) > 2000
    ·rw [if_pos c8] at H
     have c8b0:decide (2000 < (a0.size:Int))=true:=decide_eq_true c8
     have c8b1:decide (2000 < a0.size)=true:=decide_eq_true (by omega)
     clear c8
     simp only [Option.some.injEq,Prod.mk.injEq] at H
     obtain ⟨rfl,rfl,rfl,rfl⟩:=H
     obtain ⟨hcz9_0,hcz9_1,hcz9_2,hfz9_0,hfz9_1,hfz9_2⟩:=cEc BK540.out
     go_wp2
     refine bodyPost_ret (Za8 rfl _ _ gb540 24 #[.bool false,.slice none 0 0,.int .i64 0] (0,0) _ rfl (by exact p3 BK540) Tryz.underlying24 rfl (by kernel_rfl)) rfl ?_
     exact ⟨_,pE,pN,pB⟩
    ·rw [if_neg c8] at H
     have c8b0:decide (2000 < (a0.size:Int))=false:=decide_eq_false c8
     have c8b1:decide (2000 < a0.size)=false:=decide_eq_false (by omega)
     clear c8
     by_cases c10:0 < (a0.size:Int)
     ·rw [if_pos c10] at H
      have c10b0:decide (0 < (a0.size:Int))=true:=decide_eq_true c10
      have c10b1:decide (0 < a0.size)=true:=decide_eq_true (by omega)
      clear c10
      have H':=am H
      clear H
      have p11:0<=(0:Int):=(by omega)
      have q11:0 < a0.size:=(by have:(0:Int) < (a0.size:Int):=of_decide_eq_true pQ;omega)
      have hx11:∀ h:0 < a0.size,((a0[0]'h).toNat:Int)=bt a0 0:=Zdk a0 0
      clear p11
      have qi11:(0 < (a0.size:Int))=True:=eq_true (of_decide_eq_true pQ)
      replace q11:=eq_true q11
      go_wp2_with (first|((with_reducible refine gd 6 ?_);(try (refine Zas (by rfl) ?_;dsimp only));refine bx 6 #[.bool false,.slice none 0 0,.int .i64 0] 30 (h:=?_);intro gb543 hg w12 hbox hb;have BK543:=am hbox;have GW543:=gW hg;have GE543:=gW hg;have NB540_543:=nL hg BK540;have NB543_540:=nG hg BK540;replace BK540:=bb BK540 hb;replace HB:=bS hb;clear hb hbox hg;have hnb13:=NB543_540.out;have hnc13:=NB540_543.out;obtain ⟨hcz14_0,hcz14_1,hcz14_2,hfz14_0,hfz14_1,hfz14_2⟩:=cEc BK543.out))
      go_loopg [7,8,9] kj2 (fun kq v7 v8 v9 w' => ∃ (x7_2:List Int) (x8_2:Bool) (x9_2:Int) (x544002_2:Int),v8=.bool x8_2/\v9=.int .i64 x9_2/\Aside0 (Zg.l0 kq a0 x7_2 x8_2 x9_2 ((bt a0 0) == 45) x544002_2=some (r1,r2,r3,r4))/\Aside0 (kq<=kj2)/\Aside0 (Kd.R (Kd.int .i64) 3 w' w.heap.size (fun _=>True) v7 x7_2)/\Aside0 (w'.heap[gb540]? = some (.cells #[.bool false,(.slice none 0 0),.int .i64 0] 24 (0,0)))/\Aside0 (w'.heap[gb543]? = some (.cells #[.bool ((bt a0 0) == 45),(.slice none 0 0),.int .i64 x544002_2] 30 (0,0)))/\Aside0 (Below w.heap.size w w'))
      case atStart=>exact ⟨(([]:List Int)),(false),(0),(0),pR,pR,H',⟨Nat.le_refl _⟩,⟨pN⟩,⟨bf NB540_543.out BK540.out⟩,⟨by exact p3 BK543⟩,⟨pB⟩⟩
      case round =>
       clear H'
       obtain ⟨x7_2,x8_2,x9_2,x544002_2,rfl,rfl,HA,HK2,HO_7,BK540,BK543,HB⟩:=hrel
       cases gk with
       | zero=>exact absurd HA.out (by simp [Zg.l0])
       | succ k2 =>
        have H:=HA.out
        clear HA
        simp only [Zg.l0] at H
        have HC15:=am H
        clear H
        go_upto_region 10 with (fail)
        go_cut [52] (fun v52 wc => ∃ (kq:Nat) (x52_14:Bool),v52=.bool x52_14/\Aside0 (Zg.j2 kq a0 x7_2 x8_2 x9_2 x52_14 ((bt a0 0) == 45) x544002_2=some (r1,r2,r3,r4))/\Aside0 (kq<=k2)/\Aside0 (Kd.R (Kd.int .i64) 3 wc w.heap.size (fun _=>True) u7 x7_2)/\Aside0 (wc.heap[gb540]? = some (.cells #[.bool false,(.slice none 0 0),.int .i64 0] 24 (0,0)))/\Aside0 (wc.heap[gb543]? = some (.cells #[.bool ((bt a0 0) == 45),(.slice none 0 0),.int .i64 x544002_2] 30 (0,0)))/\Aside0 (Below w.heap.size w wc))
        case first =>
         have H:=HC15.out
         clear HC15
         by_cases c16:x9_2 < (a0.size:Int)
         ·rw [if_pos c16] at H
          have c16b0:decide (x9_2 < (a0.size:Int))=true:=decide_eq_true c16
          clear c16
          (first|rw [c16b0]|(simp only [Zcc,Zdc];rw [c16b0])|skip)
          by_cases c17:0<=x9_2
          ·rw [if_pos c17] at H
           have c17b0:decide (0<=x9_2)=true:=decide_eq_true c17
           clear c17
           by_cases c19:(bt a0 x9_2)=101
           ·rw [if_pos c19] at H
            have c19b0:((bt a0 x9_2) == 101)=true:=beq_iff_eq.mpr c19
            have c19b1:((bt a0 x9_2) != 101)=false:=bne_eq_false_iff_eq.mpr c19
            clear c19
            have H':=am H
            clear H
            have p18:0<=(x9_2:Int):=of_decide_eq_true pQ
            have q18:x9_2 < (a0.size:Int):=of_decide_eq_true pQ
            have hx18:=Zdk a0 x9_2
            replace p18:=eq_true p18
            replace q18:=eq_true q18
            go_wp2
            go_meet
            case rel=>exact ⟨_,(false),pR,H',⟨by have := HJ2.out;have := HK2.out;first|omega|exact Nat.le_refl _⟩,⟨by refine rp ?_;exact HO_7.out⟩,⟨Zc BK540.out pl⟩,⟨Zc BK543.out pl⟩,⟨pB⟩⟩
           ·rw [if_neg c19] at H
            have c19b0:((bt a0 x9_2) == 101)=false:=beq_eq_false_iff_ne.mpr c19
            have c19b1:((bt a0 x9_2) != 101)=true:=bne_iff_ne.mpr c19
            have H':=am H
            clear H
            have p18:0<=(x9_2:Int):=of_decide_eq_true pQ
            have q18:x9_2 < (a0.size:Int):=of_decide_eq_true pQ
            have hx18:=Zdk a0 x9_2
            replace p18:=eq_true p18
            replace q18:=eq_true q18
            have p20:0<=(x9_2:Int):=of_decide_eq_true pQ
            have q20:x9_2 < (a0.size:Int):=of_decide_eq_true pQ
            have hx20:=Zdk a0 x9_2
            replace p20:=eq_true p20
            replace q20:=eq_true q20
            go_wp2
            go_meet
            case rel=>exact ⟨_,(((bt a0 x9_2) != 69)),pR,H',⟨by have := HJ2.out;have := HK2.out;first|omega|exact Nat.le_refl _⟩,⟨by refine rp ?_;exact HO_7.out⟩,⟨Zc BK540.out pl⟩,⟨Zc BK543.out pl⟩,⟨pB⟩⟩
          ·rw [if_neg c17] at H
           exact absurd H (by simp)
         ·rw [if_neg c16] at H
          have c16b0:decide (x9_2 < (a0.size:Int))=false:=decide_eq_false c16
          clear c16
          (first|rw [c16b0]|(simp only [Zcc,Zdc];rw [c16b0])|skip)
          have H':=am H
          clear H
          go_wp2
          go_meet
          case rel=>exact ⟨_,(false),pR,H',⟨by have := HJ2.out;have := HK2.out;first|omega|exact Nat.le_refl _⟩,⟨by refine rp ?_;exact HO_7.out⟩,⟨Zc BK540.out pl⟩,⟨Zc BK543.out pl⟩,⟨pB⟩⟩
        case rest =>
         clear HC15
         obtain ⟨kq,x52_14,rfl,HA,HJ14,HO_7,BK540,BK543,HB⟩:=hcut
         cases kq with
         | zero=>exact absurd HA.out (by simp [Zg.j2])
         | succ kj14 =>
          have H:=HA.out
          clear HA
          simp only [Zg.j2] at H
          by_cases c21:x52_14=true
          ·subst c21
           rw [if_pos rfl] at H
           by_cases c22:0<=x9_2
           ·rw [if_pos c22] at H
            have c22b0:decide (0<=x9_2)=true:=decide_eq_true c22
            clear c22
            by_cases c23:x9_2 < (a0.size:Int)
            ·rw [if_pos c23] at H
             have c23b0:decide (x9_2 < (a0.size:Int))=true:=decide_eq_true c23
             clear c23
             by_cases c25:(bt a0 x9_2)=46
             ·rw [if_pos c25] at H
              have c25b0:((bt a0 x9_2) == 46)=true:=beq_iff_eq.mpr c25
              have c25b1:((bt a0 x9_2) != 46)=false:=bne_eq_false_iff_eq.mpr c25
              clear c25
              have H':=am H
              clear H
              have p24:0<=(x9_2:Int):=of_decide_eq_true pQ
              have q24:x9_2 < (a0.size:Int):=of_decide_eq_true pQ
              have hx24:=Zdk a0 x9_2
              replace p24:=eq_true p24
              replace q24:=eq_true q24
              go_wp2
              go_roundg kj14
              case measure=>have := HJ2.out;have := HK2.out;have := HJ14.out;omega
              case rel=>exact ⟨(x7_2),(true),(wrap64 (x9_2 + 1)),(x544002_2),pR,pR,H',⟨by have := HJ2.out;have := HK2.out;have := HJ14.out;omega⟩,⟨by refine rp ?_;exact HO_7.out⟩,⟨Zc BK540.out pl⟩,⟨Zc BK543.out pl⟩,⟨pB⟩⟩
             ·rw [if_neg c25] at H
              have c25b0:((bt a0 x9_2) == 46)=false:=beq_eq_false_iff_ne.mpr c25
              have c25b1:((bt a0 x9_2) != 46)=true:=bne_iff_ne.mpr c25
              by_cases c27:(bt a0 x9_2)=45
              ·rw [if_pos c27] at H
               have c27b0:((bt a0 x9_2) == 45)=true:=beq_iff_eq.mpr c27
               have c27b1:((bt a0 x9_2) != 45)=false:=bne_eq_false_iff_eq.mpr c27
               clear c27
               have H':=am H
               clear H
               have p24:0<=(x9_2:Int):=of_decide_eq_true pQ
               have q24:x9_2 < (a0.size:Int):=of_decide_eq_true pQ
               have hx24:=Zdk a0 x9_2
               replace p24:=eq_true p24
               replace q24:=eq_true q24
               have p26:0<=(x9_2:Int):=of_decide_eq_true pQ
               have q26:x9_2 < (a0.size:Int):=of_decide_eq_true pQ
               have hx26:=Zdk a0 x9_2
               replace p26:=eq_true p26
               replace q26:=eq_true q26
               go_wp2
               go_roundg kj14
               case measure=>have := HJ2.out;have := HK2.out;have := HJ14.out;omega
               case rel=>exact ⟨(x7_2),(x8_2),(wrap64 (x9_2 + 1)),(x544002_2),pR,pR,H',⟨by have := HJ2.out;have := HK2.out;have := HJ14.out;omega⟩,⟨by refine rp ?_;exact HO_7.out⟩,⟨Zc BK540.out pl⟩,⟨Zc BK543.out pl⟩,⟨pB⟩⟩
              ·rw [if_neg c27] at H
               have c27b0:((bt a0 x9_2) == 45)=false:=beq_eq_false_iff_ne.mpr c27
               have c27b1:((bt a0 x9_2) != 45)=true:=bne_iff_ne.mpr c27
               obtain ⟨y544,hy544⟩:∃ y_:List Int,y_=(([((bt a0 x9_2) - 48) % 256]:List Int)):=⟨_,rfl⟩
               replace H:(if y544.length + x7_2.length < 17592186044416 then ((some (y544 ++ x7_2:List Int)).bind fun y547=>(if x8_2=true then (Zg.l0 kj14 a0 y547 x8_2 (wrap64 (x9_2 + 1)) ((bt a0 0) == 45) (wrap64 (x544002_2 - 1))) else (Zg.l0 kj14 a0 y547 x8_2 (wrap64 (x9_2 + 1)) ((bt a0 0) == 45) x544002_2))) else (none))=some (r1,r2,r3,r4):=by have hy_:=hy544;exact pH
               have Ny544:=am hy544
               clear hy544
               by_cases c29:y544.length + x7_2.length < 17592186044416
               ·rw [if_pos c29] at H
                have LMc29:=am c29
                clear c29
                obtain ⟨y547,hy547⟩:∃ y_:List Int,y_=(y544 ++ x7_2):=⟨_,rfl⟩
                replace H:(if x8_2=true then (Zg.l0 kj14 a0 y547 x8_2 (wrap64 (x9_2 + 1)) ((bt a0 0) == 45) (wrap64 (x544002_2 - 1))) else (Zg.l0 kj14 a0 y547 x8_2 (wrap64 (x9_2 + 1)) ((bt a0 0) == 45) x544002_2))=some (r1,r2,r3,r4):=by have hy_:=hy547;exact pH
                have Ny547:=am hy547
                clear hy547
                by_cases c30:x8_2=true
                ·subst c30
                 rw [if_pos rfl] at H
                 have H':=am H
                 clear H
                 have p24:0<=(x9_2:Int):=of_decide_eq_true pQ
                 have q24:x9_2 < (a0.size:Int):=of_decide_eq_true pQ
                 have hx24:=Zdk a0 x9_2
                 replace p24:=eq_true p24
                 replace q24:=eq_true q24
                 have p26:0<=(x9_2:Int):=of_decide_eq_true pQ
                 have q26:x9_2 < (a0.size:Int):=of_decide_eq_true pQ
                 have hx26:=Zdk a0 x9_2
                 replace p26:=eq_true p26
                 replace q26:=eq_true q26
                 have p28:0<=(x9_2:Int):=of_decide_eq_true pQ
                 have q28:x9_2 < (a0.size:Int):=of_decide_eq_true pQ
                 have hx28:=Zdk a0 x9_2
                 replace p28:=eq_true p28
                 replace q28:=eq_true q28
                 go_wp2_with (first|((with_reducible refine gd 70 ?_);(try (refine Zas (by rfl) ?_;dsimp only));refine Kd.Zg2 (Kd.int .i64) _ 3 ?hg (N:=70) ?hd (xs:=([((bt a0 x9_2) - 48) % 256]:List Int)) (inner:=[.int .i64 (((bt a0 x9_2) - 48) % 256)]) (ok:=fun _=>True) (okp:=fun _=>True) ?hr ?hp (fun _ hk=>hk) trivial (Below.refl _ _) (Nat.le_refl _) (by simp) ?_;(case hd=>rfl);(case hg=>rfl);(case hr=>first|(go_simp;done)|(go_simp;rfl));(case hp=>exact (Reps.one (show Kd.M (Kd.int .i64) _ _ _ (((bt a0 x9_2) - 48) % 256) [.int .i64 (((bt a0 x9_2) - 48) % 256)] from rfl) (Reps.none _ _)));intro v545 w31 ho32 hb hg_ hnew_;clear hg_ hnew_;(first|rw [<- Ny544.out] at ho32|(simp only [Int.reduceToNat] at ho32;rw [<- Ny544.out] at ho32));have HO546:=am (Kd.Zq (Kd.Zv ho32 (Kd.R_lt (Kd.Za HO_7.out pl))) (Zb pB));replace HO_7:=reR HO_7 ho32 hb;replace BK540:=bb BK540 hb;replace BK543:=bb BK543 hb;replace HB:=bS hb;clear hb ho32;obtain ⟨Ao34,co34,eo34⟩:=Kd.Zm HO_7.out;subst eo34)|((with_reducible refine Zao (b:=.append) (xs:=#[.tmp 70,.tmp 71]) rfl ?_);(try (refine Zas (by rfl) ?_;dsimp only));at_builtin;refine Kd.Zd8 (Kd.int .i64) (w0:=w) w.heap.size rfl (.tmp 70) (.tmp 71) 28 3 (.int .i64 0) 8 rfl Tryz.underlying28 info3 rfl (by decide) (by omega) v545 y544 x7_2 _ _ _ (fun k_=>some k_ ≠ (.slice Ao34 x7_2.length co34:Value).ownBlock) (fun _=>False) rfl rfl ?aO ?aR (fun _ _ h=>h) (fun _ h=>h.elim) ?aF ?aB ?aS ?aL ?_;(case aR=>exact Kd.Zh (Kd.Zd HO_7.out).2.2 pl);(case aB=>exact pB);(case aF=>exact (fun k_ hk=>Kd.fresh' (Kd.R_lt (Kd.Za HO_7.out pl)) k_ hk));(case aO=>exact (Kd.Za (Kd.Zi HO546.out (fun _ hk=>hk.2)) pl));(case aS=>exact (Zb pB));(case aL=>have := LMc29.out;omega);intro v548 w33 ho hb hg hat;rw [<- Ny547.out] at ho;have HO549:=am ho;replace HO_7:=am (Kd.Zns (ok:=(fun _=>True)) (Kd.Za HO_7.out pl) hg hat);replace BK540:=am (Zf1 (g:=gb540) (o:=.cells #[.bool false,.slice none 0 0,.int .i64 0] 24 (0,0)) (Zc BK540.out pl) hg (Kd.R_ne HO546.out BK540.out (by decide)));replace BK543:=am (Zf1 (g:=gb543) (o:=.cells #[.bool ((bt a0 0) == 45),.slice none 0 0,.int .i64 x544002_2] 30 (0,0)) (Zc BK543.out pl) hg (Kd.R_ne HO546.out BK543.out (by decide)));replace HB:=am hb;clear HO546 ho hb hg hat;have hnb35:=NB543_540.out;have hnc35:=NB540_543.out;obtain ⟨hcz36_0,hcz36_1,hcz36_2,hfz36_0,hfz36_1,hfz36_2⟩:=cEc BK543.out))
                 go_roundg kj14
                 case measure=>have := HJ2.out;have := HK2.out;have := HJ14.out;omega
                 case rel=>exact ⟨(y547),(true),(wrap64 (x9_2 + 1)),(wrap64 (x544002_2 - 1)),pR,pR,H',⟨by have := HJ2.out;have := HK2.out;have := HJ14.out;omega⟩,⟨by refine rp ?_;exact Kd.Zi (Kd.Zn (p:=⟨gb543,2,none⟩) (Kd.Zu HO549.out BK543.out (by decide)) (fun _ hk=>hk.2) (.int .i64 (wrap64 (x544002_2 - 1)))) (fun _ hk=>trivial)⟩,⟨bf NB540_543.out BK540.out⟩,⟨by refine bp ?_;refine Za6 (cs:=#[.bool ((bt a0 0) == 45),.slice none 0 0,.int .i64 x544002_2]) ?_ 2 _ rfl;exact bp BK543.out⟩,⟨pB⟩⟩
                ·replace c30:=Bool.eq_false_iff.mpr c30
                 subst c30
                 rw [if_neg (show ¬ (false=true) by decide)] at H
                 have H':=am H
                 clear H
                 have p24:0<=(x9_2:Int):=of_decide_eq_true pQ
                 have q24:x9_2 < (a0.size:Int):=of_decide_eq_true pQ
                 have hx24:=Zdk a0 x9_2
                 replace p24:=eq_true p24
                 replace q24:=eq_true q24
                 have p26:0<=(x9_2:Int):=of_decide_eq_true pQ
                 have q26:x9_2 < (a0.size:Int):=of_decide_eq_true pQ
                 have hx26:=Zdk a0 x9_2
                 replace p26:=eq_true p26
                 replace q26:=eq_true q26
                 have p28:0<=(x9_2:Int):=of_decide_eq_true pQ
                 have q28:x9_2 < (a0.size:Int):=of_decide_eq_true pQ
                 have hx28:=Zdk a0 x9_2
                 replace p28:=eq_true p28
                 replace q28:=eq_true q28
                 go_wp2_with (first|((with_reducible refine gd 70 ?_);(try (refine Zas (by rfl) ?_;dsimp only));refine Kd.Zg2 (Kd.int .i64) _ 3 ?hg (N:=70) ?hd (xs:=([((bt a0 x9_2) - 48) % 256]:List Int)) (inner:=[.int .i64 (((bt a0 x9_2) - 48) % 256)]) (ok:=fun _=>True) (okp:=fun _=>True) ?hr ?hp (fun _ hk=>hk) trivial (Below.refl _ _) (Nat.le_refl _) (by simp) ?_;(case hd=>rfl);(case hg=>rfl);(case hr=>first|(go_simp;done)|(go_simp;rfl));(case hp=>exact (Reps.one (show Kd.M (Kd.int .i64) _ _ _ (((bt a0 x9_2) - 48) % 256) [.int .i64 (((bt a0 x9_2) - 48) % 256)] from rfl) (Reps.none _ _)));intro v545 w37 ho38 hb hg_ hnew_;clear hg_ hnew_;(first|rw [<- Ny544.out] at ho38|(simp only [Int.reduceToNat] at ho38;rw [<- Ny544.out] at ho38));have HO546:=am (Kd.Zq (Kd.Zv ho38 (Kd.R_lt (Kd.Za HO_7.out pl))) (Zb pB));replace HO_7:=reR HO_7 ho38 hb;replace BK540:=bb BK540 hb;replace BK543:=bb BK543 hb;replace HB:=bS hb;clear hb ho38;obtain ⟨Ao40,co40,eo40⟩:=Kd.Zm HO_7.out;subst eo40)|((with_reducible refine Zao (b:=.append) (xs:=#[.tmp 70,.tmp 71]) rfl ?_);(try (refine Zas (by rfl) ?_;dsimp only));at_builtin;refine Kd.Zd8 (Kd.int .i64) (w0:=w) w.heap.size rfl (.tmp 70) (.tmp 71) 28 3 (.int .i64 0) 8 rfl Tryz.underlying28 info3 rfl (by decide) (by omega) v545 y544 x7_2 _ _ _ (fun k_=>some k_ ≠ (.slice Ao40 x7_2.length co40:Value).ownBlock) (fun _=>False) rfl rfl ?aO ?aR (fun _ _ h=>h) (fun _ h=>h.elim) ?aF ?aB ?aS ?aL ?_;(case aR=>exact Kd.Zh (Kd.Zd HO_7.out).2.2 pl);(case aB=>exact pB);(case aF=>exact (fun k_ hk=>Kd.fresh' (Kd.R_lt (Kd.Za HO_7.out pl)) k_ hk));(case aO=>exact (Kd.Za (Kd.Zi HO546.out (fun _ hk=>hk.2)) pl));(case aS=>exact (Zb pB));(case aL=>have := LMc29.out;omega);intro v548 w39 ho hb hg hat;rw [<- Ny547.out] at ho;have HO549:=am ho;replace HO_7:=am (Kd.Zns (ok:=(fun _=>True)) (Kd.Za HO_7.out pl) hg hat);replace BK540:=am (Zf1 (g:=gb540) (o:=.cells #[.bool false,.slice none 0 0,.int .i64 0] 24 (0,0)) (Zc BK540.out pl) hg (Kd.R_ne HO546.out BK540.out (by decide)));replace BK543:=am (Zf1 (g:=gb543) (o:=.cells #[.bool ((bt a0 0) == 45),.slice none 0 0,.int .i64 x544002_2] 30 (0,0)) (Zc BK543.out pl) hg (Kd.R_ne HO546.out BK543.out (by decide)));replace HB:=am hb;clear HO546 ho hb hg hat))
                 go_roundg kj14
                 case measure=>have := HJ2.out;have := HK2.out;have := HJ14.out;omega
                 case rel=>exact ⟨(y547),(false),(wrap64 (x9_2 + 1)),(x544002_2),pR,pR,H',⟨by have := HJ2.out;have := HK2.out;have := HJ14.out;omega⟩,⟨by refine rp ?_;exact Kd.Zi HO549.out (fun _ hk=>trivial)⟩,⟨Zc BK540.out pl⟩,⟨Zc BK543.out pl⟩,⟨pB⟩⟩
               ·rw [if_neg c29] at H
                exact absurd H (by simp)
            ·rw [if_neg c23] at H
             exact absurd H (by simp)
           ·rw [if_neg c22] at H
            exact absurd H (by simp)
          ·replace c21:=Bool.eq_false_iff.mpr c21
           subst c21
           rw [if_neg (show ¬ (false=true) by decide)] at H
           by_cases c41:x9_2 < (a0.size:Int)
           ·rw [if_pos c41] at H
            have c41b0:decide (x9_2 < (a0.size:Int))=true:=decide_eq_true c41
            clear c41
            have H':=am H
            clear H
            go_wp2
            go_loopg [9,10,11,12] kj14 (fun kq v9 v10 v11 v12 w' => ∃ (x9_4:Int) (x10_4:Bool) (x11_4:Int) (x12_4:Int) (x541000_4:Bool) (x541002_4:Int),v9=.int .i64 x9_4/\v10=.bool x10_4/\v11=.int .i64 x11_4/\v12=.int .i64 x12_4/\Aside0 (Zg.l1 kq a0 x7_2 x9_4 x10_4 x11_4 x12_4 ((bt a0 0) == 45) x544002_2=some (r1,r2,r3,r4))/\Aside0 (kq<=kj14)/\Aside0 (Kd.R (Kd.int .i64) 3 w' w.heap.size (fun _=>True) u7 x7_2)/\Aside0 (w'.heap[gb540]? = some (.cells #[.bool x541000_4,(.slice none 0 0),.int .i64 x541002_4] 24 (0,0)))/\Aside0 (w'.heap[gb543]? = some (.cells #[.bool ((bt a0 0) == 45),(.slice none 0 0),.int .i64 x544002_2] 30 (0,0)))/\Aside0 (Below w.heap.size w w'))
            case atStart=>exact ⟨(wrap64 (x9_2 + 1)),(false),(0),(0),(false),(0),pR,pR,pR,pR,H',⟨Nat.le_refl _⟩,⟨by refine rp ?_;exact HO_7.out⟩,⟨Zc BK540.out pl⟩,⟨Zc BK543.out pl⟩,⟨pB⟩⟩
            case round =>
             clear H'
             obtain ⟨x9_4,x10_4,x11_4,x12_4,x541000_4,x541002_4,rfl,rfl,rfl,rfl,HA,HK4,HO_7,BK540,BK543,HB⟩:=hrel
             cases gk with
             | zero=>exact absurd HA.out (by simp [Zg.l1])
             | succ k4 =>
              have H:=HA.out
              clear HA
              simp only [Zg.l1] at H
              by_cases c42:x9_4 < (a0.size:Int)
              ·rw [if_pos c42] at H
               have c42b0:decide (x9_4 < (a0.size:Int))=true:=decide_eq_true c42
               clear c42
               by_cases c43:0<=x9_4
               ·rw [if_pos c43] at H
                have c43b0:decide (0<=x9_4)=true:=decide_eq_true c43
                clear c43
                by_cases c45:(bt a0 x9_4)=45
                ·rw [if_pos c45] at H
                 have c45b0:((bt a0 x9_4) == 45)=true:=beq_iff_eq.mpr c45
                 have c45b1:((bt a0 x9_4) != 45)=false:=bne_eq_false_iff_eq.mpr c45
                 clear c45
                 have H':=am H
                 clear H
                 have p44:0<=(x9_4:Int):=of_decide_eq_true pQ
                 have q44:x9_4 < (a0.size:Int):=of_decide_eq_true pQ
                 have hx44:=Zdk a0 x9_4
                 replace p44:=eq_true p44
                 replace q44:=eq_true q44
                 go_wp2
                 go_roundg k4
                 case measure=>have := HJ2.out;have := HK2.out;have := HJ14.out;have := HK4.out;omega
                 case rel=>exact ⟨(wrap64 (x9_4 + 1)),(true),(x11_4),(x12_4),(x541000_4),(x541002_4),pR,pR,pR,pR,H',⟨by have := HJ2.out;have := HK2.out;have := HJ14.out;have := HK4.out;omega⟩,⟨by refine rp ?_;exact HO_7.out⟩,⟨Zc BK540.out pl⟩,⟨Zc BK543.out pl⟩,⟨pB⟩⟩
                ·rw [if_neg c45] at H
                 have c45b0:((bt a0 x9_4) == 45)=false:=beq_eq_false_iff_ne.mpr c45
                 have c45b1:((bt a0 x9_4) != 45)=true:=bne_iff_ne.mpr c45
                 by_cases c47:(bt a0 x9_4)=43
                 ·rw [if_pos c47] at H
                  have c47b0:((bt a0 x9_4) == 43)=true:=beq_iff_eq.mpr c47
                  have c47b1:((bt a0 x9_4) != 43)=false:=bne_eq_false_iff_eq.mpr c47
                  clear c47
                  have H':=am H
                  clear H
                  have p44:0<=(x9_4:Int):=of_decide_eq_true pQ
                  have q44:x9_4 < (a0.size:Int):=of_decide_eq_true pQ
                  have hx44:=Zdk a0 x9_4
                  replace p44:=eq_true p44
                  replace q44:=eq_true q44
                  have p46:0<=(x9_4:Int):=of_decide_eq_true pQ
                  have q46:x9_4 < (a0.size:Int):=of_decide_eq_true pQ
                  have hx46:=Zdk a0 x9_4
                  replace p46:=eq_true p46
                  replace q46:=eq_true q46
                  go_wp2
                  go_roundg k4
                  case measure=>have := HJ2.out;have := HK2.out;have := HJ14.out;have := HK4.out;omega
                  case rel=>exact ⟨(wrap64 (x9_4 + 1)),(x10_4),(x11_4),(x12_4),(x541000_4),(x541002_4),pR,pR,pR,pR,H',⟨by have := HJ2.out;have := HK2.out;have := HJ14.out;have := HK4.out;omega⟩,⟨by refine rp ?_;exact HO_7.out⟩,⟨Zc BK540.out pl⟩,⟨Zc BK543.out pl⟩,⟨pB⟩⟩
                 ·rw [if_neg c47] at H
                  have c47b0:((bt a0 x9_4) == 43)=false:=beq_eq_false_iff_ne.mpr c47
                  have c47b1:((bt a0 x9_4) != 43)=true:=bne_iff_ne.mpr c47
                  have HC48:=am H
                  clear H
                  have p44:0<=(x9_4:Int):=of_decide_eq_true pQ
                  have q44:x9_4 < (a0.size:Int):=of_decide_eq_true pQ
                  have hx44:=Zdk a0 x9_4
                  replace p44:=eq_true p44
                  replace q44:=eq_true q44
                  have p46:0<=(x9_4:Int):=of_decide_eq_true pQ
                  have q46:x9_4 < (a0.size:Int):=of_decide_eq_true pQ
                  have hx46:=Zdk a0 x9_4
                  replace p46:=eq_true p46
                  replace q46:=eq_true q46
                  go_upto_region 26 with (fail)
                  go_cut [107] (fun v107 wc => ∃ (kq:Nat) (x107_47:Bool),v107=.bool x107_47/\Aside0 (Zg.j4 kq a0 x7_2 x9_4 x10_4 x11_4 x12_4 x107_47 ((bt a0 0) == 45) x544002_2=some (r1,r2,r3,r4))/\Aside0 (kq<=k4)/\Aside0 (Kd.R (Kd.int .i64) 3 wc w.heap.size (fun _=>True) u7 x7_2)/\Aside0 (wc.heap[gb540]? = some (.cells #[.bool x541000_4,(.slice none 0 0),.int .i64 x541002_4] 24 (0,0)))/\Aside0 (wc.heap[gb543]? = some (.cells #[.bool ((bt a0 0) == 45),(.slice none 0 0),.int .i64 x544002_2] 30 (0,0)))/\Aside0 (Below w.heap.size w wc))
                  case first =>
                   have H:=HC48.out
                   clear HC48
                   by_cases c49:x11_4 > 0
                   ·rw [if_pos c49] at H
                    have c49b0:decide (0 < x11_4)=true:=decide_eq_true c49
                    clear c49
                    (first|rw [c49b0]|(simp only [Zcc,Zdc];rw [c49b0])|skip)
                    have H':=am H
                    clear H
                    go_wp2
                    go_meet
                    case rel=>exact ⟨_,(true),pR,H',⟨by have := HJ2.out;have := HK2.out;have := HJ14.out;have := HK4.out;first|omega|exact Nat.le_refl _⟩,⟨by refine rp ?_;exact HO_7.out⟩,⟨Zc BK540.out pl⟩,⟨Zc BK543.out pl⟩,⟨pB⟩⟩
                   ·rw [if_neg c49] at H
                    have c49b0:decide (0 < x11_4)=false:=decide_eq_false c49
                    clear c49
                    (first|rw [c49b0]|(simp only [Zcc,Zdc];rw [c49b0])|skip)
                    have H':=am H
                    clear H
                    have p50:0<=(x9_4:Int):=of_decide_eq_true pQ
                    have q50:x9_4 < (a0.size:Int):=of_decide_eq_true pQ
                    have hx50:=Zdk a0 x9_4
                    replace p50:=eq_true p50
                    replace q50:=eq_true q50
                    go_wp2
                    go_meet
                    case rel=>exact ⟨_,(((bt a0 x9_4) != 48)),pR,H',⟨by have := HJ2.out;have := HK2.out;have := HJ14.out;have := HK4.out;first|omega|exact Nat.le_refl _⟩,⟨by refine rp ?_;exact HO_7.out⟩,⟨Zc BK540.out pl⟩,⟨Zc BK543.out pl⟩,⟨pB⟩⟩
                  case rest =>
                   clear HC48
                   obtain ⟨kq,x107_47,rfl,HA,HJ47,HO_7,BK540,BK543,HB⟩:=hcut
                   cases kq with
                   | zero=>exact absurd HA.out (by simp [Zg.j4])
                   | succ kj47 =>
                    have H:=HA.out
                    clear HA
                    simp only [Zg.j4] at H
                    by_cases c51:x107_47=true
                    ·subst c51
                     rw [if_pos rfl] at H
                     by_cases c52:(wrap64 (x12_4 + 1)) > 6
                     ·rw [if_pos c52] at H
                      have c52b0:decide (6 < (wrap64 (x12_4 + 1)))=true:=decide_eq_true c52
                      clear c52
                      simp only [Option.some.injEq,Prod.mk.injEq] at H
                      obtain ⟨rfl,rfl,rfl,rfl⟩:=H
                      have hnb53:=NB540_543.out
                      have hnc53:=NB543_540.out
                      obtain ⟨hcz54_0,hcz54_1,hcz54_2,hfz54_0,hfz54_1,hfz54_2⟩:=cEc BK540.out
                      go_wp2
                      refine bodyPost_ret (Za8 rfl _ _ gb540 24 #[.bool false,.slice none 0 0,.int .i64 0] (0,0) _ rfl (by exact p3 BK540) Tryz.underlying24 rfl (by kernel_rfl)) rfl ?_
                      exact ⟨_,pE,pN,pB⟩
                     ·rw [if_neg c52] at H
                      have c52b0:decide (6 < (wrap64 (x12_4 + 1)))=false:=decide_eq_false c52
                      clear c52
                      by_cases c55:0<=x9_4
                      ·rw [if_pos c55] at H
                       have c55b0:decide (0<=x9_4)=true:=decide_eq_true c55
                       clear c55
                       by_cases c56:x9_4 < (a0.size:Int)
                       ·rw [if_pos c56] at H
                        have c56b0:decide (x9_4 < (a0.size:Int))=true:=decide_eq_true c56
                        clear c56
                        have H':=am H
                        clear H
                        have p57:0<=(x9_4:Int):=of_decide_eq_true pQ
                        have q57:x9_4 < (a0.size:Int):=of_decide_eq_true pQ
                        have hx57:=Zdk a0 x9_4
                        replace p57:=eq_true p57
                        replace q57:=eq_true q57
                        go_wp2
                        go_roundg kj47
                        case measure=>have := HJ2.out;have := HK2.out;have := HJ14.out;have := HK4.out;have := HJ47.out;omega
                        case rel=>exact ⟨(wrap64 (x9_4 + 1)),(x10_4),(wrap64 ((wrap64 (10 * x11_4)) + (((bt a0 x9_4) - 48) % 256))),(wrap64 (x12_4 + 1)),(x541000_4),(x541002_4),pR,pR,pR,pR,H',⟨by have := HJ2.out;have := HK2.out;have := HJ14.out;have := HK4.out;have := HJ47.out;omega⟩,⟨by refine rp ?_;exact HO_7.out⟩,⟨Zc BK540.out pl⟩,⟨Zc BK543.out pl⟩,⟨pB⟩⟩
                       ·rw [if_neg c56] at H
                        exact absurd H (by simp)
                      ·rw [if_neg c55] at H
                       exact absurd H (by simp)
                    ·replace c51:=Bool.eq_false_iff.mpr c51
                     subst c51
                     rw [if_neg (show ¬ (false=true) by decide)] at H
                     by_cases c58:x12_4 > 6
                     ·rw [if_pos c58] at H
                      have c58b0:decide (6 < x12_4)=true:=decide_eq_true c58
                      clear c58
                      simp only [Option.some.injEq,Prod.mk.injEq] at H
                      obtain ⟨rfl,rfl,rfl,rfl⟩:=H
                      have hnb59:=NB540_543.out
                      have hnc59:=NB543_540.out
                      obtain ⟨hcz60_0,hcz60_1,hcz60_2,hfz60_0,hfz60_1,hfz60_2⟩:=cEc BK540.out
                      go_wp2
                      refine bodyPost_ret (Za8 rfl _ _ gb540 24 #[.bool false,.slice none 0 0,.int .i64 0] (0,0) _ rfl (by exact p3 BK540) Tryz.underlying24 rfl (by kernel_rfl)) rfl ?_
                      exact ⟨_,pE,pN,pB⟩
                     ·rw [if_neg c58] at H
                      have c58b0:decide (6 < x12_4)=false:=decide_eq_false c58
                      clear c58
                      by_cases c61:0<=x9_4
                      ·rw [if_pos c61] at H
                       have c61b0:decide (0<=x9_4)=true:=decide_eq_true c61
                       clear c61
                       by_cases c62:x9_4 < (a0.size:Int)
                       ·rw [if_pos c62] at H
                        have c62b0:decide (x9_4 < (a0.size:Int))=true:=decide_eq_true c62
                        clear c62
                        have H':=am H
                        clear H
                        have p63:0<=(x9_4:Int):=of_decide_eq_true pQ
                        have q63:x9_4 < (a0.size:Int):=of_decide_eq_true pQ
                        have hx63:=Zdk a0 x9_4
                        replace p63:=eq_true p63
                        replace q63:=eq_true q63
                        go_wp2
                        go_roundg kj47
                        case measure=>have := HJ2.out;have := HK2.out;have := HJ14.out;have := HK4.out;have := HJ47.out;omega
                        case rel=>exact ⟨(wrap64 (x9_4 + 1)),(x10_4),(wrap64 ((wrap64 (10 * x11_4)) + (((bt a0 x9_4) - 48) % 256))),(x12_4),(x541000_4),(x541002_4),pR,pR,pR,pR,H',⟨by have := HJ2.out;have := HK2.out;have := HJ14.out;have := HK4.out;have := HJ47.out;omega⟩,⟨by refine rp ?_;exact HO_7.out⟩,⟨Zc BK540.out pl⟩,⟨Zc BK543.out pl⟩,⟨pB⟩⟩
                       ·rw [if_neg c62] at H
                        exact absurd H (by simp)
                      ·rw [if_neg c61] at H
                       exact absurd H (by simp)
               ·rw [if_neg c43] at H
                exact absurd H (by simp)
              ·rw [if_neg c42] at H
               have c42b0:decide (x9_4 < (a0.size:Int))=false:=decide_eq_false c42
               clear c42
               by_cases c64:x10_4=true
               ·subst c64
                rw [if_pos rfl] at H
                obtain ⟨⟨t550,t551,t554,t555⟩,A65,H⟩:=ob H;(try dsimp only at H)
                simp only [Option.some.injEq,Prod.mk.injEq] at H
                obtain ⟨rfl,rfl,rfl,rfl⟩:=H
                have hnb66:=NB543_540.out
                have hnc66:=NB540_543.out
                obtain ⟨hcz67_0,hcz67_1,hcz67_2,hfz67_0,hfz67_1,hfz67_2⟩:=cEc BK543.out
                go_wp2_with (first|((with_reducible refine Zdd (t:=3) (p:=128) rfl ?_);refine Zc2 (t:=3) (p:=128) (v:=?vo_w68) (w1:=(wr.setCell ⟨gb543,2,none⟩ (.int .i64 (wrap64 (x544002_2 + (wrap64 (-x11_4))))))) ?hg ?ho ?hn ?hr ?_;(case ho=>rfl);(case hg=>rfl);(case hn=>rfl);(case hr=>first|(go_simp;done)|(go_simp;rfl));intro w68 hw;replace HO_7:Aside0 (Kd.R (Kd.int .i64) 3 w68 w.heap.size (fun _=>True) u7 x7_2):=⟨(by rw [hw];exact (Kd.Za (Kd.Zi (Kd.Zn (p:=⟨gb543,2,none⟩) (Kd.Zu HO_7.out BK543.out (by decide)) (fun _ hk=>hk.2) (.int .i64 (wrap64 (x544002_2 + (wrap64 (-x11_4)))))) (fun _ hk=>trivial)) pl))⟩;replace BK540:Aside0 (w68.heap[gb540]? = some (.cells #[.bool x541000_4,.slice none 0 0,.int .i64 x541002_4] 24 (0,0))):=⟨(by rw [hw];exact (bf NB540_543.out BK540.out))⟩;replace BK543:Aside0 (w68.heap[gb543]? = some (.cells #[.bool ((bt a0 0) == 45),.slice none 0 0,.int .i64 (wrap64 (x544002_2 + (wrap64 (-x11_4))))] 30 (0,0))):=⟨(by rw [hw];exact (by refine bp ?_;refine Za6 (cs:=#[.bool ((bt a0 0) == 45),.slice none 0 0,.int .i64 x544002_2]) ?_ 2 _ rfl;exact bp BK543.out))⟩;replace HB:Aside0 (Below w.heap.size w w68):=⟨(by rw [hw];exact pB)⟩;clear hw;obtain ⟨Ao69,co69,eo69⟩:=Kd.Zm HO_7.out;subst eo69;obtain ⟨hcz70_0,hcz70_1,hcz70_2,hfz70_0,hfz70_1,hfz70_2⟩:=cEc BK543.out)|((with_reducible refine Zdd (t:=28) (p:=130) rfl ?_);refine Zc2 (t:=28) (p:=130) (v:=?vo_w71) (w1:=(w68.setCell ⟨gb543,1,none⟩ (.slice Ao69 x7_2.length co69))) ?hg ?ho ?hn ?hr ?_;(case ho=>rfl);(case hg=>rfl);(case hn=>rfl);(case hr=>first|(go_simp;done)|(go_simp;rfl));intro w71 hw;replace HO_7:Aside0 (Kd.R (Kd.int .i64) 3 w71 w.heap.size (fun _=>True) (.slice Ao69 x7_2.length co69) x7_2):=⟨(by rw [hw];exact (Kd.Za (Kd.Zi (Kd.Zn (p:=⟨gb543,1,none⟩) (Kd.Zu HO_7.out BK543.out (by decide)) (fun _ hk=>hk.2) (.slice Ao69 x7_2.length co69)) (fun _ hk=>trivial)) pl))⟩;replace BK540:Aside0 (w71.heap[gb540]? = some (.cells #[.bool x541000_4,.slice none 0 0,.int .i64 x541002_4] 24 (0,0))):=⟨(by rw [hw];exact (bf NB540_543.out BK540.out))⟩;replace BK543:Aside0 (w71.heap[gb543]? = some (.cells #[.bool ((bt a0 0) == 45),.slice Ao69 x7_2.length co69,.int .i64 (wrap64 (x544002_2 + (wrap64 (-x11_4))))] 30 (0,0))):=⟨(by rw [hw];exact (by refine bp ?_;refine Za6 (cs:=#[.bool ((bt a0 0) == 45),.slice none 0 0,.int .i64 (wrap64 (x544002_2 + (wrap64 (-x11_4))))]) ?_ 1 _ rfl;exact bp BK543.out))⟩;replace HB:Aside0 (Below w.heap.size w w71):=⟨(by rw [hw];exact pB)⟩;clear hw;obtain ⟨hcz72_0,hcz72_1,hcz72_2,hfz72_0,hfz72_1,hfz72_2⟩:=cEc BK543.out)|(refine gL (some 132) Tryz.func23 #[.agg #[.bool ((bt a0 0) == 45),.slice Ao69 x7_2.length co69,.int .i64 (wrap64 (x544002_2 + (wrap64 (-x11_4))))]] (h:=?_);(with_reducible refine (Zo.calls k4 ((bt a0 0) == 45) (fun k_=>some k_=(.slice Ao69 x7_2.length co69:Value).ownBlock) (.slice Ao69 x7_2.length co69) x7_2 (wrap64 (x544002_2 + (wrap64 (-x11_4)))) t550 t551 t554 t555 w _ ?side1 ?side2 A65.out).mono ?_);(case side1=>exact pB);(case side2=>exact Kd.Zbr rfl HO_7.out);rintro e w73 ⟨v552,rfl,ho0,hb,hkp⟩;refine ⟨_,rfl,?_⟩;have HO553:=am (Kd.Zi (ok':=fun k_=>True) ho0 (fun k_ hk_=>trivial));replace BK540:=am (Za2 (Zc BK540.out pl) hkp (fun e_=>Kd.R_ne HO_7.out BK540.out (by decide) e_));replace BK543:=am (Za2 (Zc BK543.out pl) hkp (fun e_=>Kd.R_ne HO_7.out BK543.out (by decide) e_));replace HB:=am hb;clear HO_7;obtain ⟨hcz74_0,hcz74_1,hcz74_2,hfz74_0,hfz74_1,hfz74_2⟩:=cEc BK540.out;obtain ⟨Ao75,co75,eo75⟩:=Kd.Zm HO553.out;subst eo75))
                refine bodyPost_ret (Za8 rfl _ _ gb540 24 #[.bool t550,.slice Ao75 t551.length co75,.int .i64 t554] (0,0) _ rfl (by exact p3 BK540) Tryz.underlying24 rfl (by kernel_rfl)) rfl ?_
                exact ⟨_,pE,by refine rp ?_;exact Kd.Zi (Kd.Zn (p:=⟨gb540,2,none⟩) (Kd.Zn (p:=⟨gb540,1,none⟩) (Kd.Zn (p:=⟨gb540,0,none⟩) (Kd.Zu HO553.out BK540.out (by decide)) (fun _ hk=>hk.2) (.bool t550)) (fun _ hk=>hk.2) (.slice Ao75 t551.length co75)) (fun _ hk=>hk.2) (.int .i64 t554)) (fun _ hk=>trivial),pB⟩
               ·replace c64:=Bool.eq_false_iff.mpr c64
                subst c64
                rw [if_neg (show ¬ (false=true) by decide)] at H
                obtain ⟨⟨t556,t557,t560,t561⟩,A76,H⟩:=ob H;(try dsimp only at H)
                simp only [Option.some.injEq,Prod.mk.injEq] at H
                obtain ⟨rfl,rfl,rfl,rfl⟩:=H
                have hnb77:=NB543_540.out
                have hnc77:=NB540_543.out
                obtain ⟨hcz78_0,hcz78_1,hcz78_2,hfz78_0,hfz78_1,hfz78_2⟩:=cEc BK543.out
                go_wp2_with (first|((with_reducible refine Zdd (t:=3) (p:=128) rfl ?_);refine Zc2 (t:=3) (p:=128) (v:=?vo_w79) (w1:=(wr.setCell ⟨gb543,2,none⟩ (.int .i64 (wrap64 (x544002_2 + x11_4))))) ?hg ?ho ?hn ?hr ?_;(case ho=>rfl);(case hg=>rfl);(case hn=>rfl);(case hr=>first|(go_simp;done)|(go_simp;rfl));intro w79 hw;replace HO_7:Aside0 (Kd.R (Kd.int .i64) 3 w79 w.heap.size (fun _=>True) u7 x7_2):=⟨(by rw [hw];exact (Kd.Za (Kd.Zi (Kd.Zn (p:=⟨gb543,2,none⟩) (Kd.Zu HO_7.out BK543.out (by decide)) (fun _ hk=>hk.2) (.int .i64 (wrap64 (x544002_2 + x11_4)))) (fun _ hk=>trivial)) pl))⟩;replace BK540:Aside0 (w79.heap[gb540]? = some (.cells #[.bool x541000_4,.slice none 0 0,.int .i64 x541002_4] 24 (0,0))):=⟨(by rw [hw];exact (bf NB540_543.out BK540.out))⟩;replace BK543:Aside0 (w79.heap[gb543]? = some (.cells #[.bool ((bt a0 0) == 45),.slice none 0 0,.int .i64 (wrap64 (x544002_2 + x11_4))] 30 (0,0))):=⟨(by rw [hw];exact (by refine bp ?_;refine Za6 (cs:=#[.bool ((bt a0 0) == 45),.slice none 0 0,.int .i64 x544002_2]) ?_ 2 _ rfl;exact bp BK543.out))⟩;replace HB:Aside0 (Below w.heap.size w w79):=⟨(by rw [hw];exact pB)⟩;clear hw;obtain ⟨Ao80,co80,eo80⟩:=Kd.Zm HO_7.out;subst eo80;obtain ⟨hcz81_0,hcz81_1,hcz81_2,hfz81_0,hfz81_1,hfz81_2⟩:=cEc BK543.out)|((with_reducible refine Zdd (t:=28) (p:=130) rfl ?_);refine Zc2 (t:=28) (p:=130) (v:=?vo_w82) (w1:=(w79.setCell ⟨gb543,1,none⟩ (.slice Ao80 x7_2.length co80))) ?hg ?ho ?hn ?hr ?_;(case ho=>rfl);(case hg=>rfl);(case hn=>rfl);(case hr=>first|(go_simp;done)|(go_simp;rfl));intro w82 hw;replace HO_7:Aside0 (Kd.R (Kd.int .i64) 3 w82 w.heap.size (fun _=>True) (.slice Ao80 x7_2.length co80) x7_2):=⟨(by rw [hw];exact (Kd.Za (Kd.Zi (Kd.Zn (p:=⟨gb543,1,none⟩) (Kd.Zu HO_7.out BK543.out (by decide)) (fun _ hk=>hk.2) (.slice Ao80 x7_2.length co80)) (fun _ hk=>trivial)) pl))⟩;replace BK540:Aside0 (w82.heap[gb540]? = some (.cells #[.bool x541000_4,.slice none 0 0,.int .i64 x541002_4] 24 (0,0))):=⟨(by rw [hw];exact (bf NB540_543.out BK540.out))⟩;replace BK543:Aside0 (w82.heap[gb543]? = some (.cells #[.bool ((bt a0 0) == 45),.slice Ao80 x7_2.length co80,.int .i64 (wrap64 (x544002_2 + x11_4))] 30 (0,0))):=⟨(by rw [hw];exact (by refine bp ?_;refine Za6 (cs:=#[.bool ((bt a0 0) == 45),.slice none 0 0,.int .i64 (wrap64 (x544002_2 + x11_4))]) ?_ 1 _ rfl;exact bp BK543.out))⟩;replace HB:Aside0 (Below w.heap.size w w82):=⟨(by rw [hw];exact pB)⟩;clear hw;obtain ⟨hcz83_0,hcz83_1,hcz83_2,hfz83_0,hfz83_1,hfz83_2⟩:=cEc BK543.out)|(refine gL (some 132) Tryz.func23 #[.agg #[.bool ((bt a0 0) == 45),.slice Ao80 x7_2.length co80,.int .i64 (wrap64 (x544002_2 + x11_4))]] (h:=?_);(with_reducible refine (Zo.calls k4 ((bt a0 0) == 45) (fun k_=>some k_=(.slice Ao80 x7_2.length co80:Value).ownBlock) (.slice Ao80 x7_2.length co80) x7_2 (wrap64 (x544002_2 + x11_4)) t556 t557 t560 t561 w _ ?side1 ?side2 A76.out).mono ?_);(case side1=>exact pB);(case side2=>exact Kd.Zbr rfl HO_7.out);rintro e w84 ⟨v558,rfl,ho0,hb,hkp⟩;refine ⟨_,rfl,?_⟩;have HO559:=am (Kd.Zi (ok':=fun k_=>True) ho0 (fun k_ hk_=>trivial));replace BK540:=am (Za2 (Zc BK540.out pl) hkp (fun e_=>Kd.R_ne HO_7.out BK540.out (by decide) e_));replace BK543:=am (Za2 (Zc BK543.out pl) hkp (fun e_=>Kd.R_ne HO_7.out BK543.out (by decide) e_));replace HB:=am hb;clear HO_7;obtain ⟨hcz85_0,hcz85_1,hcz85_2,hfz85_0,hfz85_1,hfz85_2⟩:=cEc BK540.out;obtain ⟨Ao86,co86,eo86⟩:=Kd.Zm HO559.out;subst eo86))
                refine bodyPost_ret (Za8 rfl _ _ gb540 24 #[.bool t556,.slice Ao86 t557.length co86,.int .i64 t560] (0,0) _ rfl (by exact p3 BK540) Tryz.underlying24 rfl (by kernel_rfl)) rfl ?_
                exact ⟨_,pE,by refine rp ?_;exact Kd.Zi (Kd.Zn (p:=⟨gb540,2,none⟩) (Kd.Zn (p:=⟨gb540,1,none⟩) (Kd.Zn (p:=⟨gb540,0,none⟩) (Kd.Zu HO559.out BK540.out (by decide)) (fun _ hk=>hk.2) (.bool t556)) (fun _ hk=>hk.2) (.slice Ao86 t557.length co86)) (fun _ hk=>hk.2) (.int .i64 t560)) (fun _ hk=>trivial),pB⟩
           ·rw [if_neg c41] at H
            have c41b0:decide (x9_2 < (a0.size:Int))=false:=decide_eq_false c41
            clear c41
            obtain ⟨⟨t562,t563,t566,t567⟩,A87,H⟩:=ob H;(try dsimp only at H)
            simp only [Option.some.injEq,Prod.mk.injEq] at H
            obtain ⟨rfl,rfl,rfl,rfl⟩:=H
            obtain ⟨Ao88,co88,eo88⟩:=Kd.Zm HO_7.out
            subst eo88
            have hnb89:=NB543_540.out
            have hnc89:=NB540_543.out
            obtain ⟨hcz90_0,hcz90_1,hcz90_2,hfz90_0,hfz90_1,hfz90_2⟩:=cEc BK543.out
            go_wp2_with (first|((with_reducible refine Zdd (t:=28) (p:=130) rfl ?_);refine Zc2 (t:=28) (p:=130) (v:=?vo_w91) (w1:=(wc.setCell ⟨gb543,1,none⟩ (.slice Ao88 x7_2.length co88))) ?hg ?ho ?hn ?hr ?_;(case ho=>rfl);(case hg=>rfl);(case hn=>rfl);(case hr=>first|(go_simp;done)|(go_simp;rfl));intro w91 hw;replace HO_7:Aside0 (Kd.R (Kd.int .i64) 3 w91 w.heap.size (fun _=>True) (.slice Ao88 x7_2.length co88) x7_2):=⟨(by rw [hw];exact (Kd.Za (Kd.Zi (Kd.Zn (p:=⟨gb543,1,none⟩) (Kd.Zu HO_7.out BK543.out (by decide)) (fun _ hk=>hk.2) (.slice Ao88 x7_2.length co88)) (fun _ hk=>trivial)) pl))⟩;replace BK540:Aside0 (w91.heap[gb540]? = some (.cells #[.bool false,.slice none 0 0,.int .i64 0] 24 (0,0))):=⟨(by rw [hw];exact (bf NB540_543.out BK540.out))⟩;replace BK543:Aside0 (w91.heap[gb543]? = some (.cells #[.bool ((bt a0 0) == 45),.slice Ao88 x7_2.length co88,.int .i64 x544002_2] 30 (0,0))):=⟨(by rw [hw];exact (by refine bp ?_;refine Za6 (cs:=#[.bool ((bt a0 0) == 45),.slice none 0 0,.int .i64 x544002_2]) ?_ 1 _ rfl;exact bp BK543.out))⟩;replace HB:Aside0 (Below w.heap.size w w91):=⟨(by rw [hw];exact pB)⟩;clear hw;obtain ⟨hcz92_0,hcz92_1,hcz92_2,hfz92_0,hfz92_1,hfz92_2⟩:=cEc BK543.out)|(refine gL (some 132) Tryz.func23 #[.agg #[.bool ((bt a0 0) == 45),.slice Ao88 x7_2.length co88,.int .i64 x544002_2]] (h:=?_);(with_reducible refine (Zo.calls kj14 ((bt a0 0) == 45) (fun k_=>some k_=(.slice Ao88 x7_2.length co88:Value).ownBlock) (.slice Ao88 x7_2.length co88) x7_2 x544002_2 t562 t563 t566 t567 w _ ?side1 ?side2 A87.out).mono ?_);(case side1=>exact pB);(case side2=>exact Kd.Zbr rfl HO_7.out);rintro e w93 ⟨v564,rfl,ho0,hb,hkp⟩;refine ⟨_,rfl,?_⟩;have HO565:=am (Kd.Zi (ok':=fun k_=>True) ho0 (fun k_ hk_=>trivial));replace BK540:=am (Za2 (Zc BK540.out pl) hkp (fun e_=>Kd.R_ne HO_7.out BK540.out (by decide) e_));replace BK543:=am (Za2 (Zc BK543.out pl) hkp (fun e_=>Kd.R_ne HO_7.out BK543.out (by decide) e_));replace HB:=am hb;clear HO_7;obtain ⟨hcz94_0,hcz94_1,hcz94_2,hfz94_0,hfz94_1,hfz94_2⟩:=cEc BK540.out;obtain ⟨Ao95,co95,eo95⟩:=Kd.Zm HO565.out;subst eo95))
            refine bodyPost_ret (Za8 rfl _ _ gb540 24 #[.bool t562,.slice Ao95 t563.length co95,.int .i64 t566] (0,0) _ rfl (by exact p3 BK540) Tryz.underlying24 rfl (by kernel_rfl)) rfl ?_
            exact ⟨_,pE,by refine rp ?_;exact Kd.Zi (Kd.Zn (p:=⟨gb540,2,none⟩) (Kd.Zn (p:=⟨gb540,1,none⟩) (Kd.Zn (p:=⟨gb540,0,none⟩) (Kd.Zu HO565.out BK540.out (by decide)) (fun _ hk=>hk.2) (.bool t562)) (fun _ hk=>hk.2) (.slice Ao95 t563.length co95)) (fun _ hk=>hk.2) (.int .i64 t566)) (fun _ hk=>trivial),pB⟩
     ·rw [if_neg c10] at H
      exact absurd H (by simp)
def Zby.f (k:Nat) (a0:ByteArray):Option (Bool × List Int × Int):=(Zg.f k a0).bind fun bt569=>(some (bt569.1,bt569.2.1,bt569.2.2.1))
theorem Zby.calls (k:Nat) (a0:ByteArray) (r1:Bool) (r2:List Int) (r3:Int) (w:World) (h:Zby.f k a0=some (r1,r2,r3)) :
  Calls Tryz.prog 62 #[.string a0] w fun e w' => ∃ v1_:Value,e=.returned (.agg #[.bool r1,v1_,.int .i64 r3])/\Kd.R (Kd.int .u32) 85 w' w.heap.size (fun _=>True) v1_ r2/\Below w.heap.size w w':=by
 have hu24:=Tryz.underlying24
 have HB:=am (Below.refl w.heap.size w)
 have H:((Zg.f k a0).bind fun bt569=>(some (bt569.1,bt569.2.1,bt569.2.2.1)))=some (r1,r2,r3):=h
 clear h
 obtain ⟨⟨t569,t570,t573,t574⟩,A2,H⟩:=ob H;(try dsimp only at H)
 simp only [Option.some.injEq,Prod.mk.injEq] at H
 obtain ⟨rfl,rfl,rfl⟩:=H
 go_enter Tryz.func62,Tryz.ntmps62
 go_wp2_with (first|((with_reducible refine gd 2 ?_);refine bx 2 #[.bool false,.slice none 0 0,.int .i64 0] 24 (h:=?_);intro gb568 hg w3 hbox hb;have BK568:=am hbox;have GW568:=gW hg;have GE568:=gW hg;replace HB:=bS hb;clear hb hbox hg)|(refine gL (some 7) Tryz.func58 #[.string a0] (h:=?_);(with_reducible refine (Zg.calls k a0 t569 t570 t573 t574 _ A2.out).mono ?_);rintro e w4 ⟨v571,rfl,ho0,hb⟩;refine ⟨_,rfl,?_⟩;have HO572:=am (Kd.Zq ho0 (Zb pB));replace BK568:=bb BK568 hb;replace HB:=bS hb)|((with_reducible refine gd 3 ?_);refine bx 3 #[.bool false,.slice none 0 0,.int .i64 0] 24 (h:=?_);intro gb575 hg w5 hbox hb;have BK575:=am hbox;have GW575:=gW hg;have GE575:=gW hg;have NB568_575:=nL hg BK568;have NB575_568:=nG hg BK568;replace HO572:=rbl HO572 hb;replace BK568:=bb BK568 hb;replace HB:=bS hb;clear hb hbox hg;have hnb6:=NB575_568.out;have hnc6:=NB568_575.out;obtain ⟨hcz7_0,hcz7_1,hcz7_2,hfz7_0,hfz7_1,hfz7_2⟩:=cEc BK575.out;obtain ⟨Ao8,co8,eo8⟩:=Kd.Zm HO572.out;subst eo8;obtain ⟨hcz9_0,hcz9_1,hcz9_2,hfz9_0,hfz9_1,hfz9_2⟩:=cEc BK568.out))
 refine bodyPost_ret (results_cell_row rfl _ _ gb568 24 #[.bool t569,.slice Ao8 t570.length co8,.int .i64 t573] (0,0) _ rfl (by refine bp ?_;refine Za6 (cs:=#[.bool t569,.slice Ao8 t570.length co8,.int .i64 0]) ?_ 2 _ rfl;refine bp ?_;refine Za6 (cs:=#[.bool t569,.slice none 0 0,.int .i64 0]) ?_ 1 _ rfl;refine bp ?_;refine Za6 (cs:=#[.bool false,.slice none 0 0,.int .i64 0]) ?_ 0 _ rfl;refine bp ?_;refine Zah ?_ NB568_575.out _;refine bp ?_;refine Zah ?_ NB568_575.out _;refine bp ?_;refine Zah ?_ NB568_575.out _;exact bp BK568.out) Tryz.underlying24 rfl (by kernel_rfl)) rfl ?_
 exact ⟨_,pE,by refine rp ?_;exact Kd.Zi (Kd.Zn (p:=⟨gb568,2,none⟩) (Kd.Zn (p:=⟨gb568,1,none⟩) (Kd.Zn (p:=⟨gb568,0,none⟩) (Kd.Zn (p:=⟨gb575,2,none⟩) (Kd.Zn (p:=⟨gb575,1,none⟩) (Kd.Zn (p:=⟨gb575,0,none⟩) (Kd.Zu (Kd.Zu HO572.out BK575.out (by decide)) BK568.out (by decide)) (fun _ hk=>hk.1.2) (.bool t569)) (fun _ hk=>hk.1.2) (.slice Ao8 t570.length co8)) (fun _ hk=>hk.1.2) (.int .i64 t573)) (fun _ hk=>hk.2) (.bool t569)) (fun _ hk=>hk.2) (.slice Ao8 t570.length co8)) (fun _ hk=>hk.2) (.int .i64 t573)) (fun _ hk=>trivial),pB⟩
end YtjbjkmccfocikaaGreatDoor.B
end
section
namespace YtjbjkmccfocikaaGreatDoor.P.Nm
open Go.RowKit YtjbjkmccfocikaaGreatDoorW.PrintWords YtjbjkmccfocikaaGreatDoor.B YtjbjkmccfocikaaGreatDoor.P
structure RawD (l:List Int):Prop where
 dg:Dg 4294967296 l
 len:l.length<=9223372036854775807
theorem RawD.nil:RawD []:=⟨(fun x h=>absurd h (by simp)),(by simp)⟩
end YtjbjkmccfocikaaGreatDoor.P.Nm
end
section
namespace YtjbjkmccfocikaaGreatDoor.P.Nm
theorem Zl3 {n k:Nat} (h:10 ^ k<=n):k + 1<=nd n:=by
 refine Nat.not_lt.1 (fun hlt=>?_)
 have h1:=Zh4 n
 have h2:=Nat.pow_le_pow_right (n:=10) (by omega) (show nd n<=k by omega)
 omega
def dl (n:Nat):Nat:=if n=0 then 1 else nd n
theorem Zro {n:Nat} (h:n ≠ 0):dl n=nd n:=by unfold dl;rw [if_neg h]
theorem Zrn (n:Nat):dl n<=nd n + 1:=by unfold dl;split <;> omega
def cutN (q:Nat):Nat:=dl q - 40
theorem Zpg {a c:Dm} (h0:a.n ≠ 0) (h:settleD a=(c,0)):c=⟨a.neg,core a.n,a.e + tz a.n⟩:=by
 rcases Zd4 a with ⟨e,h1⟩|⟨e,_⟩|⟨e,_⟩|⟨e,_⟩ <;> rw [e] at h
 ·exact absurd h1 h0
 ·exact absurd (Prod.mk.inj h).2 (by decide)
 ·exact absurd (Prod.mk.inj h).2 (by decide)
 ·exact ((Prod.mk.inj h).1).symm
theorem Zrk {h:Nat} (h1:10 ^ 39<=h) (h2:h<=10 ^ 40):nd (core h)<=40/\40<=nd h:=by
 have h0:h ≠ 0:=by have := Zcj 39;omega
 refine ⟨?_,Zl3 h1⟩
 by_cases he:h=10 ^ 40
 ·have := Zkq (n:=h) (c:=1) (k:=40) (by decide) (by rw [he])
  rw [this.1];decide
 ·have := Zi6 h0
  have := Zg3 (n:=h) (k:=40) (by omega)
  omega
theorem Zi9 {a b:Nat} (h:a<=b):(10:Nat) ^ a<=10 ^ b:=Nat.pow_le_pow_right (by omega) h
theorem Zta (K:Int) (n:Nat) (e:Int):sc K ⟨false,n,e⟩=((n * 10 ^ (e + K).toNat:Nat):Int):=by unfold sc;simp
def padR (D:Dm):Nat:=(80 - dl D.n) + ((D.e - ((80 - dl D.n:Nat):Int)) % 2).toNat
def rootD (D:Dm):Dm :=
 let rt:=root (D.n * 10 ^ padR D)
 ⟨false,rt / 10 ^ cutN rt,(D.e - padR D) / 2 + cutN rt⟩
def sqrtD (D:Dm):Dm × Int:=settleD (rootD D)
theorem Zhw (D:Dm):(D.e - (padR D:Int)) % 2=0/\80 - dl D.n<=padR D/\padR D<=81 - dl D.n + 0\/(D.e - (padR D:Int)) % 2=0/\80 - dl D.n<=padR D/\padR D<=1 + (80 - dl D.n):=by
 unfold padR;omega
theorem Zim {m p:Nat} (hm:m ≠ 0) (hp:80 - dl m<=p) :
  ∃ c,cutN (root (m * 10 ^ p))=c/\10 ^ 39<=root (m * 10 ^ p) / 10 ^ c/\root (m * 10 ^ p) / 10 ^ c < 10 ^ 40:=by
 have h1:10 ^ 79<=m * 10 ^ p:=by
  have hk:=Zrx hm
  have hmp:=Zhr hm
  rw [Zro hm] at hp
  refine Nat.le_trans (Zi9 (show 79<=nd m - 1 + p by omega)) ?_
  rw [Nat.pow_add]
  exact Nat.mul_le_mul_right _ hk
 obtain ⟨X,hX⟩:∃ X,m * 10 ^ p=X:=⟨_,rfl⟩
 rw [hX] at h1 ⊢
 obtain ⟨r1,r2⟩:=Zgr X
 obtain ⟨r,hr⟩:∃ r,root X=r:=⟨_,rfl⟩
 rw [hr] at r1 r2 ⊢
 have h2:10 ^ 39<=r:=by
  refine Nat.not_lt.1 (fun hlt=>?_)
  have := Nat.mul_le_mul (show r + 1<=10 ^ 39 from hlt) (show r + 1<=10 ^ 39 from hlt)
  rw [<- Nat.pow_add] at this
  have := Nat.lt_of_lt_of_le r2 this
  have := Zi9 (show 39 + 39<=79 by omega)
  omega
 have hr0:r ≠ 0:=by have := Zcj 39;omega
 have h3:=Zl3 h2
 refine ⟨nd r - 40,by unfold cutN;rw [Zro hr0],?_,?_⟩
 ·rw [Nat.le_div_iff_mul_le (Zcj _),<- Nat.pow_add]
  have := Zrx hr0
  rwa [show 39 + (nd r - 40)=nd r - 1 by omega]
 ·rw [Nat.div_lt_iff_lt_mul (Zcj _),<- Nat.pow_add]
  have := Zh4 r
  by_cases h4:nd r<=40
  ·exact Nat.lt_of_lt_of_le this (Zi9 (by omega))
  ·rwa [show 40 + (nd r - 40)=nd r by omega]
theorem Zil {D:Dm} (h:D.n=0):(rootD D).n=0:=by
 unfold rootD
 simp only [h,Nat.zero_mul]
 have:root 0=0:=by decide
 rw [this,Nat.zero_div]
theorem Zpd {D:Dm} (h:D.n ≠ 0):10 ^ 39<=(rootD D).n/\(rootD D).n < 10 ^ 40:=by
 have hp:80 - dl D.n<=padR D:=by rcases Zhw D with h|h <;> omega
 obtain ⟨c,hc,h1,h2⟩:=Zim h hp
 unfold rootD
 simp only [hc]
 exact ⟨h1,h2⟩
theorem Zqk (D:Dm):nd (sqrtD D).1.n<=40:=by
 unfold sqrtD
 by_cases hd:D.n=0
 ·have := Zil hd
  unfold settleD;rw [if_pos this];decide
 ·obtain ⟨h1,h2⟩:=Zpd hd
  have := (Zrk h1 (Nat.le_of_lt h2)).1
  rcases Zd4 (rootD D) with ⟨e,_⟩|⟨e,_⟩|⟨e,_⟩|⟨e,_⟩ <;> rw [e]
  ·decide
  ·decide
  ·decide
  ·exact this
theorem Zh0 {D r:Dm} (hD:OkD D) (hpos:D.neg=false) (hr:sqrtD D=(r,0)) (hr0:r.n ≠ 0) :
  ∃ x:Nat,(r.e - (40 - (nd r.n:Int)) + 3000).toNat=x /\ -3000<=r.e - (40 - (nd r.n:Int)) /\ ∃ h:Nat,sc 3000 r=((h * 10 ^ x:Nat):Int) /\
   ((h * 10 ^ x) * (h * 10 ^ x):Nat)<=sc 6000 D/\sc 6000 D < (((h + 1) * 10 ^ x) * ((h + 1) * 10 ^ x):Nat):=by
 have l1:=hD.low;have g1:=hD.high;have lend:=hD.len
 have hDn:D.n ≠ 0:=fun e=>by
  have := Zil e
  unfold sqrtD settleD at hr
  rw [if_pos this] at hr
  exact hr0 (by rw [<- (Prod.mk.inj hr).1];rfl)
 obtain ⟨b1,b2⟩:=Zpd hDn
 have bn:(rootD D).n ≠ 0:=by have := Zcj 39;omega
 have hre:=Zpg (a:=rootD D) bn hr
 have hdl:dl D.n<=300:=by rw [Zro hDn];omega
 obtain ⟨hev,hp1,hp2⟩:(D.e - (padR D:Int)) % 2=0/\80 - dl D.n<=padR D/\padR D<=1 + (80 - dl D.n):=by
  rcases Zhw D with h|h <;> omega
 obtain ⟨c,hc,_,_⟩:=Zim hDn hp1
 obtain ⟨p,hp⟩:∃ p,padR D=p:=⟨_,rfl⟩
 rw [hp] at hev hp1 hp2 hc
 have nd40:nd (rootD D).n=40:=Zs0 (k:=39) b1 b2
 have hplace:r.e - (40 - (nd r.n:Int))=(rootD D).e:=by
  have := Zi6 bn
  rw [hre];simp only;omega
 have hxe:(rootD D).e=(D.e - p) / 2 + c:=by unfold rootD;simp only [hp,hc]
 have hn:(rootD D).n=root (D.n * 10 ^ p) / 10 ^ c:=by unfold rootD;simp only [hp,hc]
 have hs:sc 3000 r=sc 3000 (rootD D):=Zfc (K:=3000) (by rw [hxe];omega) hr
 obtain ⟨X,hX⟩:∃ X,D.n * 10 ^ p=X:=⟨_,rfl⟩
 obtain ⟨rt,hrt⟩:∃ rt,root X=rt:=⟨_,rfl⟩
 obtain ⟨r1,r2⟩:=Zgr X
 rw [hrt] at r1 r2
 rw [hX,hrt] at hn
 obtain ⟨h,hh⟩:∃ h,(rootD D).n=h:=⟨_,rfl⟩
 rw [hh] at hn
 obtain ⟨w,hw⟩:∃ w:Nat,((D.e - p) / 2 + 3000).toNat=w:=⟨_,rfl⟩
 have hxw:((rootD D).e + 3000).toNat=c + w:=by rw [hxe];omega
 have hneg:(rootD D).neg=false:=rfl
 have hsD:sc 6000 D=((X * (10 ^ w * 10 ^ w):Nat):Int):=by
  unfold sc
  have:(D.e + 6000).toNat=p + (w + w):=by omega
  rw [this,Nat.pow_add,<- Nat.mul_assoc,hX,Nat.pow_add 10 w w,hpos];simp
 have hlo:h * 10 ^ c<=rt:=by rw [hn];exact Nat.div_mul_le_self _ _
 have hhi:rt < (h + 1) * 10 ^ c:=by
  rw [hn]
  exact Nat.lt_mul_of_div_lt (Nat.lt_succ_self _) (Zcj c)
 have hsr:sc 3000 r=((h * 10 ^ (c + w):Nat):Int):=by
  rw [hs];unfold sc;rw [hneg,hh,hxw];simp
 refine ⟨c + w,by rw [hplace];omega,by rw [hplace,hxe];omega,h,hsr,?_,?_⟩
 ·rw [hsD]
  refine Int.ofNat_le.2 ?_
  have e:h * 10 ^ (c + w) * (h * 10 ^ (c + w))=(h * 10 ^ c) * (h * 10 ^ c) * (10 ^ w * 10 ^ w):=by
   rw [Nat.pow_add,<- Nat.mul_assoc h,Nat.mul_mul_mul_comm]
  rw [e]
  exact Nat.mul_le_mul_right _ (Nat.le_trans (Nat.mul_le_mul hlo hlo) r1)
 ·rw [hsD]
  refine Int.ofNat_lt.2 ?_
  have e:(h + 1) * 10 ^ (c + w) * ((h + 1) * 10 ^ (c + w))=((h + 1) * 10 ^ c) * ((h + 1) * 10 ^ c) * (10 ^ w * 10 ^ w):=by
   rw [Nat.pow_add,<- Nat.mul_assoc (h + 1),Nat.mul_mul_mul_comm]
  rw [e]
  exact Nat.mul_lt_mul_of_pos_right (Nat.lt_of_lt_of_le r2 (Nat.mul_le_mul hhi hhi)) (Nat.mul_pos (Zcj w) (Zcj w))
theorem Zql {D r x:Dm} (hD:OkD D) (hpos:D.neg=false) (hr:sqrtD D=(r,0)) (hr0:r.n ≠ 0) (hx:timesD r r=(x,0)):cmpD x D<=0:=by
 obtain ⟨k,_,_,h,h1,h2,h3⟩:=Zh0 hD hpos hr hr0
 have or:OkD r:=by have := Zdh (rootD D);unfold sqrtD at hr;rw [hr] at this;exact this
 have ox:OkD x:=by have := Zdh (mulD r r);unfold timesD at hx;rw [hx] at this;exact this
 have l1:=or.low;have l2:=ox.low;have l3:=hD.low
 have e1:=Zfc (K:=6000) (a:=mulD r r) (by show -6000<=r.e + r.e;omega) hx
 have e2:=Zpf (K:=3000) (L:=3000) (a:=r) (b:=r) (by omega) (by omega)
 have e3:sc 6000 x=(((h * 10 ^ k) * (h * 10 ^ k):Nat):Int):=by rw [e1,Int.natCast_mul,<- h1];exact e2
 rw [Zn6 (K:=6000) (by omega) (by omega),e3]
 split
 ·omega
 ·rw [if_neg (by omega)];omega
theorem Zpi {D r o nx y:Dm} (hD:OkD D) (hpos:D.neg=false) (hr:sqrtD D=(r,0)) (hr0:r.n ≠ 0) (ho:settleD ⟨false,1,r.e - (40 - (nd r.n:Int))⟩=(o,0)) (hn:addD r o=(nx,0)) (hy:timesD nx nx=(y,0)):0 < cmpD y D:=by
 obtain ⟨k,hk,hk2,h,h1,h2,h3⟩:=Zh0 hD hpos hr hr0
 have or:OkD r:=by have := Zdh (rootD D);unfold sqrtD at hr;rw [hr] at this;exact this
 have oo:OkD o:=by have := Zdh ⟨false,1,r.e - (40 - (nd r.n:Int))⟩;rw [ho] at this;exact this
 have on:OkD nx:=by have := Zdh (plusD r o);unfold addD at hn;rw [hn] at this;exact this
 have oy:OkD y:=by have := Zdh (mulD nx nx);unfold timesD at hy;rw [hy] at this;exact this
 have l1:=or.low;have l2:=oy.low;have l3:=hD.low;have l4:=oo.low;have l5:=on.low
 have e0:sc 3000 o=((1 * 10 ^ k:Nat):Int):=by
  have := Zfc (K:=3000) (a:=⟨false,1,r.e - (40 - (nd r.n:Int))⟩) hk2 ho
  rw [this,Zta,hk]
 have e4:sc 3000 nx=(((h + 1) * 10 ^ k:Nat):Int):=by
  have e1:=Zfc (K:=3000) (a:=plusD r o) (by rw [Zo3];omega) hn
  have e2:=Zmf (K:=3000) (a:=r) (b:=o) (by omega) (by omega)
  rw [e1,e2,h1,e0,Nat.add_mul];omega
 have e1:=Zfc (K:=6000) (a:=mulD nx nx) (by show -6000<=nx.e + nx.e;omega) hy
 have e2:=Zpf (K:=3000) (L:=3000) (a:=nx) (b:=nx) (by omega) (by omega)
 have e3:sc 6000 y=((((h + 1) * 10 ^ k) * ((h + 1) * 10 ^ k):Nat):Int):=by rw [e1,Int.natCast_mul,<- e4];exact e2
 rw [Zn6 (K:=6000) (by omega) (by omega),e3]
 rw [if_neg (by omega),if_pos (by omega)];decide
end YtjbjkmccfocikaaGreatDoor.P.Nm
end
section
namespace YtjbjkmccfocikaaGreatDoor.B
open Go.RowKit YtjbjkmccfocikaaGreatDoorW.PrintWords YtjbjkmccfocikaaGreatDoorW.PrintLast YtjbjkmccfocikaaGreatDoorW.PrintMore
attribute [local go_sem] Zb7 Zb9 Zcu Zcv Zbt Zbu Zb8 Zca
def Zel.f (k:Nat) (l0:List (S24)):Option (Int):=(Zcr.f k l0).bind fun t297=>(if t297=true then (some 9) else (some 0))
theorem Zel.calls (k:Nat) (A0:Option Addr) (c0:Nat) (l0:List (S24)) (r:Int) (w:World) (hr0:Kd.C k24 w A0 l0.length l0) (hc0:l0.length<=c0) (h:Zel.f k l0=some r) :
  Calls Tryz.prog 67 #[.slice A0 l0.length c0] w fun e w'=>e=.returned (.int .i64 r)/\Below w.heap.size w w':=by
 have HR0:=am hr0
 have HC0:=am hc0
 clear hr0 hc0
 have HB:=am (Below.refl w.heap.size w)
 have H:((Zcr.f k l0).bind fun t297=>(if t297=true then (some 9) else (some 0)))=some r:=h
 clear h
 obtain ⟨t297,A2,H⟩:=ob H
 by_cases c3:t297=true
 ·subst c3
  rw [if_pos rfl] at H
  obtain rfl:=Option.some.inj H
  go_enter Tryz.func67,Tryz.ntmps67
  go_wp2_with (first|(refine gL (some 4) Tryz.func123 #[.slice A0 l0.length c0,.func (.func 124) #[] #[]] (h:=?_);(with_reducible refine (Zcr.calls k _ _ l0 true _ ?side1 ?side2 A2.out).mono ?_);(case side1=>refine cp ?_;exact HR0.out);(case side2=>exact HC0.out);rintro e w4 ⟨rfl,hb⟩;refine ⟨_,rfl,?_⟩;replace HB:=bS hb))
  go_ret
  exact ⟨pE,pB⟩
 ·replace c3:=Bool.eq_false_iff.mpr c3
  subst c3
  rw [if_neg (show ¬ (false=true) by decide)] at H
  obtain rfl:=Option.some.inj H
  go_enter Tryz.func67,Tryz.ntmps67
  go_wp2_with (first|(refine gL (some 4) Tryz.func123 #[.slice A0 l0.length c0,.func (.func 124) #[] #[]] (h:=?_);(with_reducible refine (Zcr.calls k _ _ l0 false _ ?side1 ?side2 A2.out).mono ?_);(case side1=>refine cp ?_;exact HR0.out);(case side2=>exact HC0.out);rintro e w5 ⟨rfl,hb⟩;refine ⟨_,rfl,?_⟩;replace HB:=bS hb))
  go_ret
  exact ⟨pE,pB⟩
def Zct.f (a0:ByteArray) (a1:Int):Option (ByteArray):=some a0
theorem Zct.calls (a0:ByteArray) (a1:Int) (r:ByteArray) (w:World) (h:Zct.f a0 a1=some r) :
  Calls Tryz.prog 125 #[.string a0,.int .i64 a1] w fun e w'=>e=.returned (.string r)/\Drawn0 w w':=by
 have H:(some a0)=some r:=h
 clear h
 obtain rfl:=Option.some.inj H
 go_enter Tryz.func125,Tryz.ntmps125
 go_wp2
 go_ret
 exact ⟨pR,pD⟩
def Zbm.f (k:Nat) (l0:List Int):Option (Int):=(Zar.f k l0).bind fun bt298=>((Zct.f bt298.1 bt298.2).bind fun t300=>(some (t300.size:Int)))
theorem Zbm.calls (k:Nat) (A0:Option Addr) (c0:Nat) (l0:List Int) (r:Int) (w:World) (hr0:Kd.C (Kd.int .u32) w A0 l0.length l0) (hc0:l0.length<=c0) (h:Zbm.f k l0=some r) :
  Calls Tryz.prog 68 #[.slice A0 l0.length c0] w fun e w'=>e=.returned (.int .i64 r)/\Below w.heap.size w w':=by
 have HR0:=am hr0
 have HC0:=am hc0
 clear hr0 hc0
 have HB:=am (Below.refl w.heap.size w)
 have H:((Zar.f k l0).bind fun bt298=>((Zct.f bt298.1 bt298.2).bind fun t300=>(some (t300.size:Int))))=some r:=h
 clear h
 obtain ⟨⟨t298,t299⟩,A2,H⟩:=ob H;(try dsimp only at H)
 obtain ⟨t300,A3,H⟩:=ob H
 obtain rfl:=Option.some.inj H
 go_enter Tryz.func68,Tryz.ntmps68
 go_wp2_with (first|(refine gL (some 4) Tryz.func112 #[.slice A0 l0.length c0] (h:=?_);(with_reducible refine (Zar.calls k (fun k_=>k_ < w.heap.size) _ _ l0 t298 t299 _ ?side1 A2.out).mono ?_);(case side1=>exact Kd.V_mk HC0.out (Kd.Zg9 (Kd.C_F (Kd.Zi2 .u32) HR0.out) pB));rintro e w4 ⟨rfl,hb⟩;refine ⟨_,rfl,?_⟩;replace HB:=bS hb)|(refine gL (some 7) Tryz.func125 #[.string t298,.int .i64 t299] (h:=?_);(with_reducible refine (Zct.calls t298 t299 t300 _ A3.out).mono ?_);rintro e w' ⟨rfl,⟨nd,rfl⟩⟩;refine ⟨_,rfl,?_⟩))
 go_ret
 exact ⟨pE,pB⟩
def Zy.f (l0:List Int) (a1:Int):Option (List Int):=some l0
theorem Zy.calls (P0_:Nat->Prop) (u9000_:Value) (l0:List Int) (a1:Int) (r:List Int) (w0 w:World) (hB:Below w0.heap.size w0 w) (ho0:Kd.R (Kd.int .u32) 85 w w0.heap.size P0_ u9000_ l0) (h:Zy.f l0 a1=some r) :
  Calls Tryz.prog 70 #[u9000_,.int .i64 a1] w fun e w' => ∃ v0_:Value,e=.returned (v0_)/\Kd.R (Kd.int .u32) 85 w' w0.heap.size (fun k_=>(P0_ k_\/w.heap.size<=k_)) v0_ r/\Below w0.heap.size w0 w'/\Kept w w' (fun k_=>P0_ k_):=by
 have HO0:=am (show Kd.R (Kd.int .u32) 85 w w0.heap.size (fun k_=>(P0_ k_\/w.heap.size<=k_)) u9000_ l0 from Kd.Zi ho0 (fun k_ hk=>(.inl hk)))
 have HK:=am (Kept.refl w (fun k_=>P0_ k_))
 have HW0:=am hB.size
 have HB:=am hB
 clear hB
 have H:(some l0)=some r:=h
 clear h
 obtain rfl:=Option.some.inj H
 go_enter Tryz.func70,Tryz.ntmps70
 go_wp2
 go_ret
 exact ⟨_,pE,by refine rp ?_;exact HO0.out,pB,by repeat (first|(with_reducible first|exact HK.out|apply Kept.alloc|apply Kept.drewN|apply Kept.drew)|exact HK.out)⟩
def Zck.f (k:Nat) (a0:Int):Option (List Int):=(Zfx.f k a0).bind fun bt327=>((Zy.f bt327.1 bt327.2).bind fun t331=>(some t331))
theorem Zck.calls (k:Nat) (a0:Int) (r:List Int) (w:World) (h:Zck.f k a0=some r) :
  Calls Tryz.prog 72 #[.int .i64 a0] w fun e w' => ∃ v0_:Value,e=.returned (v0_)/\Kd.R (Kd.int .u32) 85 w' w.heap.size (fun _=>True) v0_ r/\Below w.heap.size w w':=by
 have HB:=am (Below.refl w.heap.size w)
 have H:((Zfx.f k a0).bind fun bt327=>((Zy.f bt327.1 bt327.2).bind fun t331=>(some t331)))=some r:=h
 clear h
 obtain ⟨⟨t327,t328⟩,A2,H⟩:=ob H;(try dsimp only at H)
 obtain ⟨t331,A3,H⟩:=ob H
 obtain rfl:=Option.some.inj H
 go_enter Tryz.func72,Tryz.ntmps72
 go_wp2_with (first|(refine gL (some 4) Tryz.func130 #[.int .i64 a0] (h:=?_);(with_reducible refine (Zfx.calls k a0 t327 t328 _ A2.out).mono ?_);rintro e w4 ⟨v329,rfl,ho0,hb⟩;refine ⟨_,rfl,?_⟩;have HO330:=am (Kd.Zq ho0 (Zb pB));replace HB:=bS hb;obtain ⟨Ao5,co5,eo5⟩:=Kd.Zm HO330.out;subst eo5)|(refine gL (some 7) Tryz.func70 #[.slice Ao5 t327.length co5,.int .i64 t328] (h:=?_);(with_reducible refine (Zy.calls (fun k_=>some k_=(.slice Ao5 t327.length co5:Value).ownBlock) (.slice Ao5 t327.length co5) t327 t328 t331 w _ ?side1 ?side2 A3.out).mono ?_);(case side1=>exact pB);(case side2=>exact Kd.Zbr rfl HO330.out);rintro e w6 ⟨v332,rfl,ho0,hb,hkp⟩;refine ⟨_,rfl,?_⟩;have HO333:=am (Kd.Zi (ok':=fun k_=>True) ho0 (fun k_ hk_=>trivial));replace HB:=am hb;clear HO330))
 go_ret
 exact ⟨_,pE,by refine rp ?_;exact HO333.out,pB⟩
def Zcb.f (k:Nat) (l0:List Int) (a1:Int):Option (List Int × List Int × Int):=(Zbm.f k l0).bind fun t334=>((Zck.f k (mx (wrap64 (t334 - a1)) 0)).bind fun t335=>((Zdm.f k l0 t335).bind fun bt338=>(some (bt338.1,bt338.2.1,mx (wrap64 (t334 - a1)) 0))))
theorem Zcb.calls (k:Nat) (A0:Option Addr) (c0:Nat) (l0:List Int) (a1:Int) (r1:List Int) (r2:List Int) (r3:Int) (w:World) (hr0:Kd.C (Kd.int .u32) w A0 l0.length l0) (hc0:l0.length<=c0) (h:Zcb.f k l0 a1=some (r1,r2,r3)) :
  Calls Tryz.prog 73 #[.slice A0 l0.length c0,.int .i64 a1] w fun e w' => ∃ v0_ v1_:Value,e=.returned (.tuple #[v0_,v1_,.int .i64 r3])/\Kd.R (Kd.int .u32) 85 w' w.heap.size (fun k_=>some k_ ≠ (v1_:Value).ownBlock) v0_ r1/\Kd.R (Kd.int .u32) 85 w' w.heap.size (fun k_=>some k_ ≠ (v0_:Value).ownBlock) v1_ r2/\Below w.heap.size w w':=by
 have HR0:=am hr0
 have HC0:=am hc0
 clear hr0 hc0
 have HB:=am (Below.refl w.heap.size w)
 have H:((Zbm.f k l0).bind fun t334=>((Zck.f k (mx (wrap64 (t334 - a1)) 0)).bind fun t335=>((Zdm.f k l0 t335).bind fun bt338=>(some (bt338.1,bt338.2.1,mx (wrap64 (t334 - a1)) 0)))))=some (r1,r2,r3):=h
 clear h
 obtain ⟨t334,A3,H⟩:=ob H
 obtain ⟨ji4,hji4⟩:∃ j_:Int,(mx (wrap64 (t334 - a1)) 0)=j_:=⟨_,rfl⟩
 replace H:((Zck.f k (ji4)).bind fun t335=>((Zdm.f k l0 t335).bind fun bt338=>(some (bt338.1,bt338.2.1,ji4))))=some (r1,r2,r3):=by first|(rw [hji4] at H;exact H)|(simp only [hji4] at H ⊢;exact H)
 (try rw [hji4] at A3)
 (try (have hji4l:0<=ji4:=by (rw [<- hji4];unfold mx;(repeat' split) <;> omega)))
 (try (have hji4m:0<=ji4:=by omega))
 have hji4_:(if (wrap64 (t334 - a1)) < 0 then 0 else (wrap64 (t334 - a1)))=ji4:=hji4
 obtain ⟨t335,A5,H⟩:=ob H
 obtain ⟨⟨t338,t339,t340⟩,A6,H⟩:=ob H;(try dsimp only at H)
 simp only [Option.some.injEq,Prod.mk.injEq] at H
 obtain ⟨rfl,rfl,rfl⟩:=H
 go_enter Tryz.func73,Tryz.ntmps73
 go_wp2_with (first|(refine gL (some 8) Tryz.func68 #[.slice A0 l0.length c0] (h:=?_);(with_reducible refine (Zbm.calls k _ _ l0 t334 _ ?side1 ?side2 A3.out).mono ?_);(case side1=>refine cp ?_;exact HR0.out);(case side2=>exact HC0.out);rintro e w7 ⟨rfl,hb⟩;refine ⟨_,rfl,?_⟩;replace HB:=bS hb)|((with_reducible refine Zdw (f:=72) rfl ?_);refine goesL_ (some 15) rfl rfl Tryz.func72 (by kernel_rfl) rfl #[.int .i64 ji4] rfl (by (try simp only [List.map_toArray,List.map_cons,List.map_nil]);first|done|(simp only [hji4];rfl)|rfl|(simp only [List.length_drop,List.length_take];rfl)) ?_;(with_reducible refine (Zck.calls k ji4 t335 _ A5.out).mono ?_);rintro e w8 ⟨v336,rfl,ho0,hb⟩;refine ⟨_,rfl,?_⟩;have HO337:=am (Kd.Zq ho0 (Zb pB));replace HB:=bS hb;obtain ⟨Ao9,co9,eo9⟩:=Kd.Zm HO337.out;subst eo9)|(refine gL (some 16) Tryz.func69 #[.slice A0 l0.length c0,.slice Ao9 t335.length co9] (h:=?_);(with_reducible refine (Zdm.calls k _ _ l0 _ _ t335 t338 t339 t340 _ ?side1 ?side2 ?side3 ?side4 A6.out).mono ?_);(case side1=>refine cp ?_;exact (Kd.Zh HR0.out HB.out));(case side2=>exact HC0.out);(case side3=>exact Kd.Zh (Kd.Zd HO337.out).2.2 pl);(case side4=>exact (Kd.Zd HO337.out).2.1);rintro e w10 ⟨v341,v343,rfl,ho0,ho1,hb⟩;refine ⟨_,rfl,?_⟩;have HO342:=am (Kd.Zq (Kd.Zv ho0 (Kd.R_lt (Kd.Za HO337.out pl))) (Zb pB));have HO344:=am (Kd.Zq (Kd.Zv ho1 (Kd.R_lt (Kd.Za HO337.out pl))) (Zb pB));replace HO337:=am (Kd.Zi (Kd.Zc7 (Kd.Zc7 (Kd.Zgh (Kd.Za HO337.out pl) hb) (Kd.Zat ho0)) (Kd.Zat ho1)) (fun _ h_=>h_.1));replace HB:=bS hb))
 go_ret3
 exact ⟨_,_,by first|rfl|(simp [Zal,Zam] <;> rfl)|(simp only [<- hji4];first|rfl|(simp [Zal,Zam] <;> rfl))|(simp [*,Zal,Zam] <;> rfl),by refine rp ?_;exact Kd.Zi HO342.out (fun _ hk=>hk.1),by refine rp ?_;exact Kd.Zi HO344.out (fun _ hk=>hk.1),pB⟩
def Zbi.f (k:Nat) (l0:List Int) (l1:List Int) (a2:Int) (a3:Bool):Option (Bool):=if a2=0 then (some false) else ((Zck.f k (wrap64 (a2 - 1))).bind fun t356=>((Zc4.f k 5).bind fun t359=>((Zdn.f k t356 t359).bind fun bt362=>((Zy.f bt362.1 bt362.2).bind fun t366=>((Zdx.f k l1 t366).bind fun bt369=>(if (l0.length:Int) > 0 then (if 0 < (l0.length:Int) then (if bt369.1 > 0 then (some true) else (if bt369.1=0 then (if a3=true then (some true) else (some ((Int.tmod (rd l0 0) 2) == 1))) else (some false))) else (none)) else (if bt369.1 > 0 then (some true) else (if bt369.1=0 then (if a3=true then (some true) else (some false)) else (some false)))))))))
theorem Zbi.leaf {P:Prop} (h:P:=by
 go_enter Tryz.func74,Tryz.ntmps74
 go_wp2_with (first|(refine gL (some 17) Tryz.func72 #[.int .i64 (wrap64 (a2 - 1))] (h:=?_);(with_reducible refine (Zck.calls k (wrap64 (a2 - 1)) t356 _ A6.out).mono ?_);rintro e w0z ⟨v1z,rfl,ho2z,hb⟩;refine ⟨_,rfl,?_⟩;have HO3z:=am (Kd.Zq ho2z (Zb pB));replace HB:=bS hb)|(refine gL (some 18) Tryz.func76 #[.int .u64 5] (h:=?_);(with_reducible refine (Zc4.calls k 5 t359 _ A7.out).mono ?_);rintro e w4z ⟨v5z,rfl,ho2z,hb⟩;refine ⟨_,rfl,?_⟩;have HO6z:=am (Kd.Zq (Kd.Zv ho2z (Kd.R_lt (Kd.Za HO3z.out pl))) (Zb pB));replace HO3z:=reR HO3z ho2z hb;replace HB:=bS hb;obtain ⟨Ao7z,co8z,eo9z⟩:=Kd.Zm HO3z.out;subst eo9z;obtain ⟨Ao10z,co11z,eo12z⟩:=Kd.Zm HO6z.out;subst eo12z)|(refine gL (some 19) Tryz.func71 #[.slice Ao7z t356.length co8z,.slice Ao10z t359.length co11z] (h:=?_);(with_reducible refine (Zdn.calls k _ _ t356 _ _ t359 t362 t363 _ ?side1 ?side2 ?side3 ?side4 A8.out).mono ?_);(case side1=>exact Kd.Zh (Kd.Zd HO3z.out).2.2 pl);(case side2=>exact (Kd.Zd HO3z.out).2.1);(case side3=>exact Kd.Zh (Kd.Zd HO6z.out).2.2 pl);(case side4=>exact (Kd.Zd HO6z.out).2.1);rintro e w13z ⟨v14z,rfl,ho2z,hb⟩;refine ⟨_,rfl,?_⟩;have HO15z:=am (Kd.Zq (Kd.Zv (Kd.Zv ho2z (Kd.R_lt (Kd.Za HO3z.out pl))) (Kd.R_lt (Kd.Za HO6z.out pl))) (Zb pB));replace HO3z:=reR HO3z ho2z hb;replace HO6z:=reR HO6z ho2z hb;replace HB:=bS hb;obtain ⟨Ao16z,co17z,eo18z⟩:=Kd.Zm HO15z.out;subst eo18z)|(refine gL (some 22) Tryz.func70 #[.slice Ao16z t362.length co17z,.int .i64 t363] (h:=?_);(with_reducible refine (Zy.calls (fun k_=>some k_=(.slice Ao16z t362.length co17z:Value).ownBlock) (.slice Ao16z t362.length co17z) t362 t363 t366 w _ ?side1 ?side2 A9.out).mono ?_);(case side1=>exact pB);(case side2=>exact Kd.Zbr rfl HO15z.out);rintro e w19z ⟨v20z,rfl,ho2z,hb,hkp⟩;refine ⟨_,rfl,?_⟩;have HO21z:=am (Kd.Zi (ok':=fun k_=>some k_ ≠ (.slice Ao7z t356.length co8z:Value).ownBlock/\some k_ ≠ (.slice Ao10z t359.length co11z:Value).ownBlock) ho2z (fun k_ hk_=>⟨Or.elim hk_ (fun hs_=>fun e_=>(((HO3z.out).1 k_ e_.symm).2) hs_) (fun hn_=>(Kd.fresh' (Kd.R_lt (Kd.Za HO3z.out pl)) k_ hn_)),Or.elim hk_ (fun hs_=>fun e_=>(((HO6z.out).1 k_ e_.symm).2) hs_) (fun hn_=>(Kd.fresh' (Kd.R_lt (Kd.Za HO6z.out pl)) k_ hn_))⟩));replace HO3z:=am (Kd.Zi (ok':=fun k_=>some k_ ≠ (.slice Ao10z t359.length co11z:Value).ownBlock/\some k_ ≠ (v20z:Value).ownBlock) (Kd.Zcl (HO3z.out) hkp (fun k_ hk_ hs_=>(hk_.2) hs_)) (fun k_ hk_=>⟨hk_.1.1.2,fun e_=>Or.elim (ho2z.1 k_ e_.symm) (fun hs_=>hk_.2.1 hs_) (fun hn_=>Nat.not_le.2 hk_.2.2 hn_)⟩));replace HO6z:=am (Kd.Zi (ok':=fun k_=>some k_ ≠ (.slice Ao7z t356.length co8z:Value).ownBlock/\some k_ ≠ (v20z:Value).ownBlock) (Kd.Zcl (HO6z.out) hkp (fun k_ hk_ hs_=>(hk_.2) hs_)) (fun k_ hk_=>⟨hk_.1.1.2,fun e_=>Or.elim (ho2z.1 k_ e_.symm) (fun hs_=>hk_.2.1 hs_) (fun hn_=>Nat.not_le.2 hk_.2.2 hn_)⟩));replace HB:=am hb;clear HO15z;obtain ⟨Ao22z,co23z,eo24z⟩:=Kd.Zm HO21z.out;subst eo24z)|((have q_:decide (0 < l0.length)=true:=c12b1;clear q_);refine gL (some 26) Tryz.func90 #[.slice A1 l1.length c1,.slice Ao22z t366.length co23z] (h:=?_);(with_reducible refine (Zdx.calls k _ _ l1 _ _ t366 t369 t370 _ ?side1 ?side2 ?side3 ?side4 A10.out).mono ?_);(case side1=>refine cp ?_;exact (Kd.Zh HR1.out HB.out));(case side2=>exact HC1.out);(case side3=>exact Kd.Zh (Kd.Zd HO21z.out).2.2 pl);(case side4=>exact (Kd.Zd HO21z.out).2.1);rintro e w25z ⟨rfl,hb⟩;refine ⟨_,rfl,?_⟩;replace HO3z:=rbl HO3z hb;replace HO6z:=rbl HO6z hb;replace HO21z:=rbl HO21z hb;replace HB:=bS hb;have p26z:0<=(0:Int):=(by omega);have q27z:0 < (l0.length:Int):=of_decide_eq_true pQ;obtain ⟨ad28z,e29z,hx30z⟩:=Kd.Za4 HR0.out 0 p26z q27z;cases e29z;have qi31z:(0 < l0.length)=True:=eq_true (by omega);(try rw [show ((0:Int)).toNat=0 from rfl] at hx30z);(try rw [Addr.add_zero'] at hx30z);replace hx30z:=(HB.out.cell (World.block_lt_of_cell? w _ hx30z)).trans hx30z;replace p26z:=eq_true p26z;replace q27z:=eq_true q27z)|((have q_:decide (0 < l0.length)=false:=c11b1;clear q_);refine gL (some 26) Tryz.func90 #[.slice A1 l1.length c1,.slice Ao22z t366.length co23z] (h:=?_);(with_reducible refine (Zdx.calls k _ _ l1 _ _ t366 t369 t370 _ ?side1 ?side2 ?side3 ?side4 A10.out).mono ?_);(case side1=>refine cp ?_;exact (Kd.Zh HR1.out HB.out));(case side2=>exact HC1.out);(case side3=>exact Kd.Zh (Kd.Zd HO21z.out).2.2 pl);(case side4=>exact (Kd.Zd HO21z.out).2.1);rintro e w25z ⟨rfl,hb⟩;refine ⟨_,rfl,?_⟩;replace HO3z:=rbl HO3z hb;replace HO6z:=rbl HO6z hb;replace HO21z:=rbl HO21z hb;replace HB:=bS hb))
 go_ret
 exact ⟨pE,pB⟩):P:=h
theorem Zbi.calls (k:Nat) (A0:Option Addr) (c0:Nat) (l0:List Int) (A1:Option Addr) (c1:Nat) (l1:List Int) (a2:Int) (a3:Bool) (r:Bool) (w:World) (hr0:Kd.C (Kd.int .u32) w A0 l0.length l0) (hc0:l0.length<=c0) (hr1:Kd.C (Kd.int .u32) w A1 l1.length l1) (hc1:l1.length<=c1) (h:Zbi.f k l0 l1 a2 a3=some r) :
  Calls Tryz.prog 74 #[.slice A0 l0.length c0,.slice A1 l1.length c1,.int .i64 a2,.bool a3] w fun e w'=>e=.returned (.bool r)/\Below w.heap.size w w':=by
 have HR0:=am hr0
 have HC0:=am hc0
 clear hr0 hc0
 have HR1:=am hr1
 have HC1:=am hc1
 clear hr1 hc1
 have HB:=am (Below.refl w.heap.size w)
 have H:(if a2=0 then (some false) else ((Zck.f k (wrap64 (a2 - 1))).bind fun t356=>((Zc4.f k 5).bind fun t359=>((Zdn.f k t356 t359).bind fun bt362=>((Zy.f bt362.1 bt362.2).bind fun t366=>((Zdx.f k l1 t366).bind fun bt369=>(if (l0.length:Int) > 0 then (if 0 < (l0.length:Int) then (if bt369.1 > 0 then (some true) else (if bt369.1=0 then (if a3=true then (some true) else (some ((Int.tmod (rd l0 0) 2) == 1))) else (some false))) else (none)) else (if bt369.1 > 0 then (some true) else (if bt369.1=0 then (if a3=true then (some true) else (some false)) else (some false))))))))))=some r:=h
 clear h
 by_cases c5:a2=0
 ·rw [if_pos c5] at H
  have c5b0:(a2 == 0)=true:=beq_iff_eq.mpr c5
  have c5b1:(a2 != 0)=false:=bne_eq_false_iff_eq.mpr c5
  clear c5
  obtain rfl:=Option.some.inj H
  exact Zbi.leaf
 ·rw [if_neg c5] at H
  have c5b0:(a2 == 0)=false:=beq_eq_false_iff_ne.mpr c5
  have c5b1:(a2 != 0)=true:=bne_iff_ne.mpr c5
  obtain ⟨t356,A6,H⟩:=ob H
  obtain ⟨t359,A7,H⟩:=ob H
  obtain ⟨⟨t362,t363⟩,A8,H⟩:=ob H;(try dsimp only at H)
  obtain ⟨t366,A9,H⟩:=ob H
  obtain ⟨⟨t369,t370⟩,A10,H⟩:=ob H;(try dsimp only at H)
  by_cases c11:(l0.length:Int) > 0
  ·rw [if_pos c11] at H
   have c11b0:decide (0 < (l0.length:Int))=true:=decide_eq_true c11
   have c11b1:decide (0 < l0.length)=true:=decide_eq_true (by omega)
   clear c11
   by_cases c12:0 < (l0.length:Int)
   ·rw [if_pos c12] at H
    have c12b0:decide (0 < (l0.length:Int))=true:=decide_eq_true c12
    have c12b1:decide (0 < l0.length)=true:=decide_eq_true (by omega)
    clear c12
    by_cases c13:t369 > 0
    ·rw [if_pos c13] at H
     have c13b0:decide (0 < t369)=true:=decide_eq_true c13
     clear c13
     obtain rfl:=Option.some.inj H
     exact Zbi.leaf
    ·rw [if_neg c13] at H
     have c13b0:decide (0 < t369)=false:=decide_eq_false c13
     clear c13
     by_cases c23:t369=0
     ·rw [if_pos c23] at H
      have c23b0:(t369 == 0)=true:=beq_iff_eq.mpr c23
      have c23b1:(t369 != 0)=false:=bne_eq_false_iff_eq.mpr c23
      clear c23
      by_cases c24:a3=true
      ·subst c24
       rw [if_pos rfl] at H
       obtain rfl:=Option.some.inj H
       exact Zbi.leaf
      ·replace c24:=Bool.eq_false_iff.mpr c24
       subst c24
       rw [if_neg (show ¬ (false=true) by decide)] at H
       obtain rfl:=Option.some.inj H
       exact Zbi.leaf
     ·rw [if_neg c23] at H
      have c23b0:(t369 == 0)=false:=beq_eq_false_iff_ne.mpr c23
      have c23b1:(t369 != 0)=true:=bne_iff_ne.mpr c23
      obtain rfl:=Option.some.inj H
      exact Zbi.leaf
   ·rw [if_neg c12] at H
    exact absurd H (by simp)
  ·rw [if_neg c11] at H
   have c11b0:decide (0 < (l0.length:Int))=false:=decide_eq_false c11
   have c11b1:decide (0 < l0.length)=false:=decide_eq_false (by omega)
   clear c11
   by_cases c52:t369 > 0
   ·rw [if_pos c52] at H
    have c52b0:decide (0 < t369)=true:=decide_eq_true c52
    clear c52
    obtain rfl:=Option.some.inj H
    exact Zbi.leaf
   ·rw [if_neg c52] at H
    have c52b0:decide (0 < t369)=false:=decide_eq_false c52
    clear c52
    by_cases c62:t369=0
    ·rw [if_pos c62] at H
     have c62b0:(t369 == 0)=true:=beq_iff_eq.mpr c62
     have c62b1:(t369 != 0)=false:=bne_eq_false_iff_eq.mpr c62
     clear c62
     by_cases c63:a3=true
     ·subst c63
      rw [if_pos rfl] at H
      obtain rfl:=Option.some.inj H
      exact Zbi.leaf
     ·replace c63:=Bool.eq_false_iff.mpr c63
      subst c63
      rw [if_neg (show ¬ (false=true) by decide)] at H
      obtain rfl:=Option.some.inj H
      exact Zbi.leaf
    ·rw [if_neg c62] at H
     have c62b0:(t369 == 0)=false:=beq_eq_false_iff_ne.mpr c62
     have c62b1:(t369 != 0)=true:=bne_iff_ne.mpr c62
     obtain rfl:=Option.some.inj H
     exact Zbi.leaf
def Zbq.f (k:Nat) (a0_0:Bool) (l0_1:List Int) (a0_2:Int) (a1_0:Bool) (l1_1:List Int) (a1_2:Int):Option (Bool × List Int × Int × Int):=(Zel.f k (([(⟨a0_0,l0_1,a0_2⟩:S24),(⟨a1_0,l1_1,a1_2⟩:S24)]:List (S24)))).bind fun t386=>(if t386=0 then (if (l1_1.length:Int)=0 then (some (false,([]:List Int),0,53)) else ((Zbm.f k l1_1).bind fun t387=>((Zbm.f k l0_1).bind fun t388=>((Zck.f k (mx (wrap64 ((wrap64 ((wrap64 (t387 - t388)) + 40)) + 2)) 0)).bind fun t389=>((Zdn.f k l0_1 t389).bind fun bt392=>((Zy.f bt392.1 bt392.2).bind fun t396=>((Zdm.f k t396 l1_1).bind fun bt399=>((Zcb.f k bt399.1 40).bind fun bt406=>((Zbi.f k bt406.1 bt406.2.1 bt406.2.2 (decide ((bt399.2.1.length:Int) > 0))).bind fun t413=>(if t413=true then ((Zc4.f k 1).bind fun t414=>((Ze8.f k bt406.1 t414).bind fun bt417=>((Zy.f bt417.1 bt417.2).bind fun t421=>((Zax.f k (a0_0 != a1_0) t421 (wrap64 ((wrap64 ((wrap64 (a0_2 - a1_2)) - (mx (wrap64 ((wrap64 ((wrap64 (t387 - t388)) + 40)) + 2)) 0))) + bt406.2.2))).bind fun bt424=>(some (bt424.1,bt424.2.1,bt424.2.2.1,bt424.2.2.2)))))) else ((Zax.f k (a0_0 != a1_0) bt406.1 (wrap64 ((wrap64 ((wrap64 (a0_2 - a1_2)) - (mx (wrap64 ((wrap64 ((wrap64 (t387 - t388)) + 40)) + 2)) 0))) + bt406.2.2))).bind fun bt430=>(some (bt430.1,bt430.2.1,bt430.2.2.1,bt430.2.2.2))))))))))))) else (some (false,([]:List Int),0,t386)))
def Zbq.T6:Bool × List (List Nat × List Nat):=(true,[([],[]),([0],[0]),([1],[1]),([],[]),([3],[3]),([4,2],[4]),([2,5],[2,5]),([6],[6]),([7],[7]),([8],[8]),([9,5,0,1,2,3,4,5,6,7,8,9],[9])])
def Zbq.B6:List Nat:=[0,1,3,0,8,31,63,127,255,511,1023]
theorem Zbq.tab6:rtab .any (opsOf Tryz.f19 6)=Zbq.T6:=by kernel_rfl
theorem Zbq.bits6:waitsOk Zbq.T6.2 Zbq.B6=true:=by kernel_rfl
def Zbq.T7:Bool × List (List Nat × List Nat):=(true,[([],[]),([0],[0]),([],[]),([2],[2]),([1,3,3],[1,3]),([4],[4]),([4],[4]),([5,6,4],[5,6]),([],[]),([8],[8]),([7,9,7],[7,9]),([10],[10]),([11],[11]),([11],[11]),([11],[11]),([12,10,0,1,2,3,4,5,6,7,8,9,10,11,12],[12]),([13,15,0,1,2,3,4,5,6,7,8,9,10,11,12,13,15],[13]),([14,16,0,1,2,3,4,5,6,7,8,9,10,11,12,13,14,15,16],[14])])
def Zbq.B7:List Nat:=[0,1,0,4,15,31,31,127,0,256,1023,2047,4095,4095,4095,8191,49151,131071]
theorem Zbq.tab7:rtab .any (opsOf Tryz.f19 7)=Zbq.T7:=by kernel_rfl
theorem Zbq.bits7:waitsOk Zbq.T7.2 Zbq.B7=true:=by kernel_rfl
theorem Zbq.leaf {P:Prop} (h:P:=by
 go_enter Tryz.func19,Tryz.ntmps19
 try go_wp2_with (first|((with_reducible refine gd 2 ?_);refine bx 2 #[.bool a0_0,.slice A0_1 l0_1.length c0_1,.int .i64 a0_2] 24 (h:=?_);intro gb0z hg w1z hbox hb;have BK2z:=am hbox;have GW3z:=gW hg;have GE4z:=gW hg;replace HO0_1:=vE HO0_1 gb0z hg hb;replace HO1_1:=vE HO1_1 gb0z hg hb;replace HB:=bS hb;clear hb hbox hg)|((with_reducible refine gd 3 ?_);refine bx 3 #[.bool a1_0,.slice A1_1 l1_1.length c1_1,.int .i64 a1_2] 24 (h:=?_);intro gb5z hg w6z hbox hb;have BK7z:=am hbox;have GW8z:=gW hg;have GE9z:=gW hg;have NB10z:=nL hg BK2z;have NB11z:=nG hg BK2z;replace HO0_1:=vE HO0_1 gb5z hg hb;replace HO1_1:=vE HO1_1 gb5z hg hb;replace BK2z:=bb BK2z hb;replace HB:=bS hb;clear hb hbox hg)|((with_reducible refine gd 4 ?_);refine bx 4 #[.bool false,.slice none 0 0,.int .i64 0] 24 (h:=?_);intro gb12z hg w13z hbox hb;have BK14z:=am hbox;have GW15z:=gW hg;have GE16z:=gW hg;have NB17z:=nL hg BK2z;have NB18z:=nG hg BK2z;have NB19z:=nL hg BK7z;have NB20z:=nG hg BK7z;replace HO0_1:=vE HO0_1 gb12z hg hb;replace HO1_1:=vE HO1_1 gb12z hg hb;replace BK2z:=bb BK2z hb;replace BK7z:=bb BK7z hb;replace HB:=bS hb;clear hb hbox hg;have hnb21z:=NB10z.out;have hnc22z:=NB11z.out;have hnb23z:=NB17z.out;have hnc24z:=NB18z.out;obtain ⟨hcz25z,hcz26z,hcz27z,hfz28z,hfz29z,hfz30z⟩:=cEc BK2z.out;have hnb31z:=NB19z.out;have hnc32z:=NB20z.out;obtain ⟨hcz33z,hcz34z,hcz35z,hfz36z,hfz37z,hfz38z⟩:=cEc BK7z.out)|((with_reducible refine gd 16 ?_);refine Kd.Zti k24 _ 24 ?hg (N':=16) ?hd (xs:=([(⟨a0_0,l0_1,a0_2⟩:S24),(⟨a1_0,l1_1,a1_2⟩:S24)]:List (S24))) (inner:=[.bool a0_0,.slice A0_1 l0_1.length c0_1,.int .i64 a0_2,.bool a1_0,.slice A1_1 l1_1.length c1_1,.int .i64 a1_2]) (ok:=(fun k_=>((P0_1_ k_\/P1_1_ k_)\/w.heap.size<=k_)/\k_ ≠ gb0z/\k_ ≠ gb5z/\k_ ≠ gb12z)) (okp:=(fun k_=>((P0_1_ k_\/P1_1_ k_)\/w.heap.size<=k_)/\k_ ≠ gb0z/\k_ ≠ gb5z/\k_ ≠ gb12z)) ?hr ?hp (fun _ hk=>hk) ((show ∀ k_,w13z.heap.size<=k_->(fun k_=>((P0_1_ k_\/P1_1_ k_)\/w.heap.size<=k_)/\k_ ≠ gb0z/\k_ ≠ gb5z/\k_ ≠ gb12z) k_ from fun k_ hk=>⟨(.inr (Nat.le_trans (Zb pB) hk)),Kd.freshB (g:=gb0z) (o:=.cells #[.bool a0_0,.slice A0_1 l0_1.length c0_1,.int .i64 a0_2] 24 (0,0)) (Zc BK2z.out pl) k_ hk,Kd.freshB (g:=gb5z) (o:=.cells #[.bool a1_0,.slice A1_1 l1_1.length c1_1,.int .i64 a1_2] 24 (0,0)) (Zc BK7z.out pl) k_ hk,Kd.freshB (g:=gb12z) (o:=.cells #[.bool false,.slice none 0 0,.int .i64 0] 24 (0,0)) (Zc BK14z.out pl) k_ hk⟩) _ (Nat.le_refl _)) (Below.refl _ _) (Nat.le_refl _) (by simp) ?_;(case hd=>rfl);(case hg=>rfl);(case hr=>first|(go_simp;done)|(go_simp;rfl));(case hp=>exact (Reps.c3 (show Kd.FK k24 _ _ (⟨a0_0,l0_1,a0_2⟩:S24) [.bool a0_0,.slice A0_1 l0_1.length c0_1,.int .i64 a0_2] from (Zof _ _ (⟨a0_0,l0_1,a0_2⟩:S24) (Kd.Zcg (Kd.Zdj (ok':=(fun k_=>((P0_1_ k_\/P1_1_ k_)\/w.heap.size<=k_)/\k_ ≠ gb0z/\k_ ≠ gb5z/\k_ ≠ gb12z)) (HO0_1.out) (fun k_ hk=>⟨hk.1.1.1,⟨hk.1.1.2,⟨hk.1.2,hk.2⟩⟩⟩))).2.1 (Kd.V_F (Kd.Zdj (ok':=(fun k_=>((P0_1_ k_\/P1_1_ k_)\/w.heap.size<=k_)/\k_ ≠ gb0z/\k_ ≠ gb5z/\k_ ≠ gb12z)) (HO0_1.out) (fun k_ hk=>⟨hk.1.1.1,⟨hk.1.1.2,⟨hk.1.2,hk.2⟩⟩⟩))))) (Reps.c3 (show Kd.FK k24 _ _ (⟨a1_0,l1_1,a1_2⟩:S24) [.bool a1_0,.slice A1_1 l1_1.length c1_1,.int .i64 a1_2] from (Zof _ _ (⟨a1_0,l1_1,a1_2⟩:S24) (Kd.Zcg (Kd.Zdj (ok':=(fun k_=>((P0_1_ k_\/P1_1_ k_)\/w.heap.size<=k_)/\k_ ≠ gb0z/\k_ ≠ gb5z/\k_ ≠ gb12z)) (HO1_1.out) (fun k_ hk=>⟨hk.1.1.1,⟨hk.1.1.2,⟨hk.1.2,hk.2⟩⟩⟩))).2.1 (Kd.V_F (Kd.Zdj (ok':=(fun k_=>((P0_1_ k_\/P1_1_ k_)\/w.heap.size<=k_)/\k_ ≠ gb0z/\k_ ≠ gb5z/\k_ ≠ gb12z)) (HO1_1.out) (fun k_ hk=>⟨hk.1.1.1,⟨hk.1.1.2,⟨hk.1.2,hk.2⟩⟩⟩))))) (Reps.none _ _))));intro v39z w40z ho41z hb hg_ hnew_;clear hg_ hnew_;(first|rw [<- Ny383.out] at ho41z|(simp only [Int.reduceToNat] at ho41z;rw [<- Ny383.out] at ho41z));replace HO0_1:=am (Kd.Zc8 (Kd.Zcp HO0_1.out pl) (Kd.Zqr ho41z) hb);replace HO1_1:=am (Kd.Zc8 (Kd.Zcp HO1_1.out pl) (Kd.Zqr ho41z) hb);have HO42z:=am (Kd.Zra ho41z (Zb pB));replace BK2z:=bb BK2z hb;replace BK7z:=bb BK7z hb;replace BK14z:=bb BK14z hb;replace HB:=bS hb;clear hb ho41z;obtain ⟨Ao43z,co44z,eo45z⟩:=Kd.Zrb HO42z.out;subst eo45z)|((have q_:((l1_1.length:Int) != 0)=false:=c5b1;clear q_);refine gL (some 17) Tryz.func67 #[.slice Ao43z y383.length co44z] (h:=?_);(with_reducible refine (Zel.calls k _ _ y383 t386 _ ?side1 ?side2 A3.out).mono ?_);(case side1=>exact Kd.Zh (Kd.Zfg HO42z.out).2.2 pl);(case side2=>exact (Kd.Zfg HO42z.out).2.1);rintro e w46z ⟨rfl,hb⟩;refine ⟨_,rfl,?_⟩;replace HO0_1:=vbl HO0_1 hb;replace HO1_1:=vbl HO1_1 hb;replace HO42z:=nbl HO42z hb;replace BK2z:=bb BK2z hb;replace BK7z:=bb BK7z hb;replace BK14z:=bb BK14z hb;replace HB:=bS hb;obtain ⟨hcz47z,hcz48z,hcz49z,hfz50z,hfz51z,hfz52z⟩:=cEc BK7z.out;obtain ⟨hcz53z,hcz54z,hcz55z,hfz56z,hfz57z,hfz58z⟩:=cEc BK14z.out)|((have q_:=A28;clear q_);refine gL (some 17) Tryz.func67 #[.slice Ao43z y383.length co44z] (h:=?_);(with_reducible refine (Zel.calls k _ _ y383 t386 _ ?side1 ?side2 A3.out).mono ?_);(case side1=>exact Kd.Zh (Kd.Zfg HO42z.out).2.2 pl);(case side2=>exact (Kd.Zfg HO42z.out).2.1);rintro e w46z ⟨rfl,hb⟩;refine ⟨_,rfl,?_⟩;replace HO0_1:=vbl HO0_1 hb;replace HO1_1:=vbl HO1_1 hb;replace HO42z:=nbl HO42z hb;replace BK2z:=bb BK2z hb;replace BK7z:=bb BK7z hb;replace BK14z:=bb BK14z hb;replace HB:=bS hb;obtain ⟨hcz47z,hcz48z,hcz49z,hfz50z,hfz51z,hfz52z⟩:=cEc BK7z.out)|((have q_:(t386 != 0)=true:=c4b1;clear q_);refine gL (some 17) Tryz.func67 #[.slice Ao43z y383.length co44z] (h:=?_);(with_reducible refine (Zel.calls k _ _ y383 t386 _ ?side1 ?side2 A3.out).mono ?_);(case side1=>exact Kd.Zh (Kd.Zfg HO42z.out).2.2 pl);(case side2=>exact (Kd.Zfg HO42z.out).2.1);rintro e w46z ⟨rfl,hb⟩;refine ⟨_,rfl,?_⟩;replace HO0_1:=vbl HO0_1 hb;replace HO1_1:=vbl HO1_1 hb;replace HO42z:=nbl HO42z hb;replace BK2z:=bb BK2z hb;replace BK7z:=bb BK7z hb;replace BK14z:=bb BK14z hb;replace HB:=bS hb;obtain ⟨hcz47z,hcz48z,hcz49z,hfz50z,hfz51z,hfz52z⟩:=cEc BK14z.out))
 first
  | have q_:=A28
    replace HO0_1:=am (Kd.Zlm HO0_1.out)
    replace HO1_1:=am (Kd.Zlm HO1_1.out)
    replace HO42z:=am (Kd.Zqs HO42z.out)
    replace BK2z:=am (Zba BK2z.out)
    replace BK7z:=am (Zba BK7z.out)
    replace BK14z:=am (Zba BK14z.out)
    replace HB:=am (Zaz HB.out)
    refine start_ (n:=11) (S:=fun w'=>w'.cell? ⟨gb5z,0,none⟩=some (.bool a1_0)/\w'.cell? ⟨gb5z,1,none⟩=some (.slice A1_1 l1_1.length c1_1)/\w'.cell? ⟨gb5z,2,none⟩=some (.int .i64 a1_2)/\w'.cell? ⟨gb0z,0,none⟩=some (.bool a0_0)/\w'.cell? ⟨gb0z,1,none⟩=some (.slice A0_1 l0_1.length c0_1)/\w'.cell? ⟨gb0z,2,none⟩=some (.int .i64 a0_2)) (ds:=[]) #[false,false,false,false,false,false,false,false,false,false,false] (by kernel_rfl) rfl rfl ⟨k0 BK7z 0,k0 BK7z 1,k0 BK7z 2,k0 BK2z 0,k0 BK2z 1,k0 BK2z 2⟩ (fun hHeld=>?_);refine Zcn Zbq.tab6 Zbq.bits6 (fun HT_ HW_=>?_)
    generalize w46z.drew=w53z at HO0_1 HO1_1 HO42z BK2z BK7z BK14z HB hHeld ⊢
    refine pu 0 (some 27) #[true,false,false,false,false,false,false,false,false,false,false] (h:=?_)
    refine pu 3 (some 30) #[true,false,false,true,false,false,false,false,false,false,false] (h:=?_)
    refine take_ (i:=1) (N:=some 28) (v:=?_) (a':=?_) #[true,true,false,true,false,false,false,false,false,false,false] rfl rfl (Zbh HT_.out HW_.out (by kernel_rfl)) (fun _ _ _ h=>h) (Or.inl ⟨by rfl,?_⟩) hHeld ?_ ?_
    rotate_left
    ·rintro w' ⟨s54z,s55z,s56z,s57z,s58z,s59z⟩
     go_simp
     with_reducible rfl
    rotate_left
    ·exact pP
    refine take_ (i:=4) (N:=some 31) (v:=?_) (a':=?_) #[true,true,false,true,true,false,false,false,false,false,false] rfl rfl (Zbh HT_.out HW_.out (by kernel_rfl)) (fun _ _ _ h=>h) (Or.inl ⟨by rfl,?_⟩) hHeld ?_ ?_
    rotate_left
    ·rintro w' ⟨s54z,s55z,s56z,s57z,s58z,s59z⟩
     go_simp
     with_reducible rfl
    rotate_left
    ·exact pP
    refine one_ (i:=2) (N:=some 29) #[true,true,true,true,true,false,false,false,false,false,false] rfl rfl (Zbx HT_.out (by kernel_rfl)) (by decide) (fun K hK=>?_)
    refine goes_ Tryz.func68 (by kernel_rfl) rfl #[.slice A1_1 l1_1.length c1_1] (by rfl) rfl rfl pA ?_
    with_reducible refine (Zbm.calls k _ _ l1_1 t387 _ ?side1 ?side2 A20.out).mono ?_
    (case side1=>exact Kd.Zh (Kd.Zcg HO1_1.out).2.2 pl)
    (case side2=>exact (Kd.Zcg HO1_1.out).2.1)
    rintro e w60z ⟨rfl,hb⟩
    refine ⟨_,rfl,?_⟩
    replace HO0_1:=vbl HO0_1 hb
    replace HO1_1:=vbl HO1_1 hb
    replace HO42z:=nbl HO42z hb
    replace BK2z:=bb BK2z hb
    replace BK7z:=bb BK7z hb
    replace BK14z:=bb BK14z hb
    replace HB:=bS hb
    refine hK.out _ _ ⟨k0 BK7z 0,k0 BK7z 1,k0 BK7z 2,k0 BK2z 0,k0 BK2z 1,k0 BK2z 2⟩ (fun hHeld=>?_)
    clear hK K
    refine norm_ (a':=?_) ?_ ?_
    rotate_left
    ·show Act.put _ (some 29) _=_
     exact pP
    refine one_ (i:=5) (N:=some 32) #[true,true,true,true,true,true,false,false,false,false,false] rfl rfl (Zbx HT_.out (by kernel_rfl)) (by decide) (fun K hK=>?_)
    refine goes_ Tryz.func68 (by kernel_rfl) rfl #[.slice A0_1 l0_1.length c0_1] (by rfl) rfl rfl pA ?_
    with_reducible refine (Zbm.calls k _ _ l0_1 t388 _ ?side1 ?side2 A21.out).mono ?_
    (case side1=>exact Kd.Zh (Kd.Zcg HO0_1.out).2.2 pl)
    (case side2=>exact (Kd.Zcg HO0_1.out).2.1)
    rintro e w61z ⟨rfl,hb⟩
    refine ⟨_,rfl,?_⟩
    replace HO0_1:=vbl HO0_1 hb
    replace HO1_1:=vbl HO1_1 hb
    replace HO42z:=nbl HO42z hb
    replace BK2z:=bb BK2z hb
    replace BK7z:=bb BK7z hb
    replace BK14z:=bb BK14z hb
    replace HB:=bS hb
    refine hK.out _ _ ⟨k0 BK7z 0,k0 BK7z 1,k0 BK7z 2,k0 BK2z 0,k0 BK2z 1,k0 BK2z 2⟩ (fun hHeld=>?_)
    clear hK K
    refine norm_ (a':=?_) ?_ ?_
    rotate_left
    ·show Act.put _ (some 32) _=_
     exact pP
    refine pu 6 (some 33) #[true,true,true,true,true,true,true,false,false,false,false] (h:=?_)
    refine pu 7 (some 34) #[true,true,true,true,true,true,true,true,false,false,false] (h:=?_)
    refine pu 8 (some 35) #[true,true,true,true,true,true,true,true,true,false,false] (h:=?_)
    refine pu 9 (some 36) #[true,true,true,true,true,true,true,true,true,true,false] (h:=?_)
    refine pu 10 (some 7) #[true,true,true,true,true,true,true,true,true,true,true] (h:=?_)
    refine done_ (Zdl HT_.out (by kernel_rfl)) ?_
    try go_wp2
    replace HO0_1:=am (Kd.Zlm HO0_1.out)
    replace HO1_1:=am (Kd.Zlm HO1_1.out)
    replace HO42z:=am (Kd.Zqs HO42z.out)
    replace BK2z:=am (Zba BK2z.out)
    replace BK7z:=am (Zba BK7z.out)
    replace BK14z:=am (Zba BK14z.out)
    replace HB:=am (Zaz HB.out)
    refine start_ (n:=18) (S:=fun w'=>w'.cell? ⟨gb0z,0,none⟩=some (.bool a0_0)/\w'.cell? ⟨gb0z,1,none⟩=some (.slice A0_1 l0_1.length c0_1)/\w'.cell? ⟨gb0z,2,none⟩=some (.int .i64 a0_2)/\w'.cell? ⟨gb5z,0,none⟩=some (.bool a1_0)/\w'.cell? ⟨gb5z,1,none⟩=some (.slice A1_1 l1_1.length c1_1)/\w'.cell? ⟨gb5z,2,none⟩=some (.int .i64 a1_2)) (ds:=[]) #[false,false,false,false,false,false,false,false,false,false,false,false,false,false,false,false,false,false] (by kernel_rfl) rfl rfl ⟨k0 BK2z 0,k0 BK2z 1,k0 BK2z 2,k0 BK7z 0,k0 BK7z 1,k0 BK7z 2⟩ (fun hHeld=>?_);refine Zcn Zbq.tab7 Zbq.bits7 (fun HT_ HW_=>?_)
    generalize w61z.drew=w62z at HO0_1 HO1_1 HO42z BK2z BK7z BK14z HB hHeld ⊢
    refine pu 0 (some 38) #[true,false,false,false,false,false,false,false,false,false,false,false,false,false,false,false,false,false] (h:=?_)
    refine pu 2 (some 40) #[true,false,true,false,false,false,false,false,false,false,false,false,false,false,false,false,false,false] (h:=?_)
    refine pu 8 (some 46) #[true,false,true,false,false,false,false,false,true,false,false,false,false,false,false,false,false,false] (h:=?_)
    refine take_ (i:=1) (N:=some 39) (v:=?_) (a':=?_) #[true,true,true,false,false,false,false,false,true,false,false,false,false,false,false,false,false,false] rfl rfl (Zbh HT_.out HW_.out (by kernel_rfl)) (fun _ _ _ h=>h) (Or.inl ⟨by rfl,?_⟩) hHeld ?_ ?_
    rotate_left
    ·rintro w' ⟨s54z,s55z,s56z,s57z,s58z,s59z⟩
     go_simp
     with_reducible rfl
    rotate_left
    ·exact pP
    refine take_ (i:=9) (N:=some 47) (v:=?_) (a':=?_) #[true,true,true,false,false,false,false,false,true,true,false,false,false,false,false,false,false,false] rfl rfl (Zbh HT_.out HW_.out (by kernel_rfl)) (fun _ _ _ h=>h) (Or.inl ⟨by rfl,?_⟩) hHeld ?_ ?_
    rotate_left
    ·rintro w' ⟨s54z,s55z,s56z,s57z,s58z,s59z⟩
     go_simp
     with_reducible rfl
    rotate_left
    ·exact pP
    refine one_ (i:=3) (N:=some 41) #[true,true,true,true,false,false,false,false,true,true,false,false,false,false,false,false,false,false] rfl rfl (Zbx HT_.out (by kernel_rfl)) (by decide) (fun K hK=>?_)
    refine goes_ Tryz.func72 (by kernel_rfl) rfl #[.int .i64 ji22] (by rfl) rfl rfl (by (try simp only [List.map_toArray,List.map_cons,List.map_nil]);first|done|(simp only [hji22];rfl)|rfl|(simp only [List.length_drop,List.length_take];rfl)) ?_
    with_reducible refine (Zck.calls k ji22 t389 _ A23.out).mono ?_
    rintro e w63z ⟨v64z,rfl,ho65z,hb⟩
    refine ⟨_,rfl,?_⟩
    replace HO0_1:=am (Kd.Zc8 (Kd.Zcp HO0_1.out pl) (Kd.Zat ho65z) hb)
    replace HO1_1:=am (Kd.Zc8 (Kd.Zcp HO1_1.out pl) (Kd.Zat ho65z) hb)
    replace HO42z:=am (Kd.Zff (Kd.Zdt HO42z.out pl) (Kd.Zat ho65z) hb)
    have HO66z:=am (Kd.Zq (Kd.Zep (M:=fun k_=>(w.heap.size<=k_)) ho65z (Zb pB) (fun k_ h_=>h_)) (Zb pB))
    replace BK2z:=bb BK2z hb
    replace BK7z:=bb BK7z hb
    replace BK14z:=bb BK14z hb
    replace HB:=bS hb
    obtain ⟨Ao67z,co68z,eo69z⟩:=Kd.Zm HO66z.out
    (first|subst eo69z|(injection eo69z with f1_ f2_ f3_;have f4_:=f1_.symm;have f5_:=f3_.symm;clear f1_ f2_ f3_;subst f4_;subst f5_))
    refine hK.out _ _ ⟨k0 BK2z 0,k0 BK2z 1,k0 BK2z 2,k0 BK7z 0,k0 BK7z 1,k0 BK7z 2⟩ (fun hHeld=>?_)
    clear hK K
    refine norm_ (a':=?_) ?_ ?_
    rotate_left
    ·show Act.put _ (some 41) _=_
     exact pP
    refine one_ (i:=4) (N:=some 42) #[true,true,true,true,true,false,false,false,true,true,false,false,false,false,false,false,false,false] rfl rfl (Zbx HT_.out (by kernel_rfl)) (by decide) (fun K hK=>?_)
    refine goes_ Tryz.func71 (by kernel_rfl) rfl #[.slice A0_1 l0_1.length c0_1,.slice Ao67z t389.length co68z] (by rfl) rfl rfl pA ?_
    with_reducible refine (Zdn.calls k _ _ l0_1 _ _ t389 t392 t393 _ ?side1 ?side2 ?side3 ?side4 A24.out).mono ?_
    (case side1=>exact Kd.Zh (Kd.Zcg HO0_1.out).2.2 pl)
    (case side2=>exact (Kd.Zcg HO0_1.out).2.1)
    (case side3=>exact Kd.Zh (Kd.Zd HO66z.out).2.2 pl)
    (case side4=>exact (Kd.Zd HO66z.out).2.1)
    rintro e w70z ⟨v71z,rfl,ho65z,hb⟩
    refine ⟨_,rfl,?_⟩
    have HO72z:=am (Kd.Zq (Kd.Zv (Kd.Zep (M:=fun k_=>(w.heap.size<=k_)) ho65z (Zb pB) (fun k_ h_=>h_)) (Kd.R_lt (Kd.Za HO66z.out pl))) (Zb pB))
    replace HO0_1:=am (Kd.Zc8 (Kd.Zcp HO0_1.out pl) (Kd.Zat ho65z) hb)
    replace HO1_1:=am (Kd.Zc8 (Kd.Zcp HO1_1.out pl) (Kd.Zat ho65z) hb)
    replace HO42z:=am (Kd.Zff (Kd.Zdt HO42z.out pl) (Kd.Zat ho65z) hb)
    replace HO66z:=reR HO66z ho65z hb
    replace BK2z:=bb BK2z hb
    replace BK7z:=bb BK7z hb
    replace BK14z:=bb BK14z hb
    replace HB:=bS hb
    obtain ⟨Ao73z,co74z,eo75z⟩:=Kd.Zm HO72z.out
    (first|subst eo75z|(injection eo75z with f1_ f2_ f3_;have f4_:=f1_.symm;have f5_:=f3_.symm;clear f1_ f2_ f3_;subst f4_;subst f5_))
    refine hK.out _ _ ⟨k0 BK2z 0,k0 BK2z 1,k0 BK2z 2,k0 BK7z 0,k0 BK7z 1,k0 BK7z 2⟩ (fun hHeld=>?_)
    clear hK K
    refine norm_ (a':=?_) ?_ ?_
    rotate_left
    ·show Act.put _ (some 42) _=_
     exact pP
    refine pu 5 (some 43) #[true,true,true,true,true,true,false,false,true,true,false,false,false,false,false,false,false,false] (h:=?_)
    refine pu 6 (some 44) #[true,true,true,true,true,true,true,false,true,true,false,false,false,false,false,false,false,false] (h:=?_)
    refine one_ (i:=7) (N:=some 45) #[true,true,true,true,true,true,true,true,true,true,false,false,false,false,false,false,false,false] rfl rfl (Zbx HT_.out (by kernel_rfl)) (by decide) (fun K hK=>?_)
    refine goes_ Tryz.func70 (by kernel_rfl) rfl #[.slice Ao73z t392.length co74z,.int .i64 t393] (by rfl) rfl rfl pA ?_
    with_reducible refine (Zy.calls (fun k_=>some k_=(.slice Ao73z t392.length co74z:Value).ownBlock) (.slice Ao73z t392.length co74z) t392 t393 t396 w _ ?side1 ?side2 A25.out).mono ?_
    (case side1=>exact pB)
    (case side2=>exact Kd.Zbr rfl HO72z.out)
    rintro e w76z ⟨v77z,rfl,ho65z,hb,hkp⟩
    refine ⟨_,rfl,?_⟩
    have HO78z:=am (Kd.Zi (ok':=fun k_=>(w.heap.size<=k_)/\some k_ ≠ (.slice Ao67z t389.length co68z:Value).ownBlock) ho65z (fun k_ hk_=>⟨Or.elim hk_ (fun hs_=>(HO72z.out.1 k_ (hs_).symm).1.1) (fun hn_=>(Nat.le_trans (Zb pB) hn_)),Or.elim hk_ (fun hs_=>fun e_=>(((HO66z.out).1 k_ e_.symm).2) hs_) (fun hn_=>(Kd.fresh' (Kd.R_lt (Kd.Za HO66z.out pl)) k_ hn_))⟩))
    replace HO0_1:=am (Kd.Zdj (ok':=fun k_=>((P0_1_ k_\/P1_1_ k_)\/w.heap.size<=k_)/\some k_ ≠ (.slice Ao43z y383.length co44z:Value).ownBlock/\some k_ ≠ (.slice Ao67z t389.length co68z:Value).ownBlock/\k_ ≠ gb0z/\k_ ≠ gb5z/\k_ ≠ gb12z/\some k_ ≠ (v77z:Value).ownBlock) (Kd.Zhi (HO0_1.out) hkp (fun k_ hk_ hs_=>(hk_.2) hs_)) (fun k_ hk_=>⟨hk_.1.1.1.1.1.1.1,hk_.1.1.1.2,hk_.1.1.2,hk_.1.1.1.1.1.1.2,hk_.1.1.1.1.1.2,hk_.1.1.1.1.2,fun e_=>Or.elim (ho65z.1 k_ e_.symm) (fun hs_=>hk_.2.1 hs_) (fun hn_=>Nat.not_le.2 hk_.2.2 hn_)⟩))
    replace HO1_1:=am (Kd.Zdj (ok':=fun k_=>((P0_1_ k_\/P1_1_ k_)\/w.heap.size<=k_)/\some k_ ≠ (.slice Ao43z y383.length co44z:Value).ownBlock/\some k_ ≠ (.slice Ao67z t389.length co68z:Value).ownBlock/\k_ ≠ gb0z/\k_ ≠ gb5z/\k_ ≠ gb12z/\some k_ ≠ (v77z:Value).ownBlock) (Kd.Zhi (HO1_1.out) hkp (fun k_ hk_ hs_=>(hk_.2) hs_)) (fun k_ hk_=>⟨hk_.1.1.1.1.1.1.1,hk_.1.1.1.2,hk_.1.1.2,hk_.1.1.1.1.1.1.2,hk_.1.1.1.1.1.2,hk_.1.1.1.1.2,fun e_=>Or.elim (ho65z.1 k_ e_.symm) (fun hs_=>hk_.2.1 hs_) (fun hn_=>Nat.not_le.2 hk_.2.2 hn_)⟩))
    replace BK2z:=am (Za2 (Zc BK2z.out pl) hkp (fun e_=>Kd.R_ne HO72z.out BK2z.out (by decide) e_))
    replace BK7z:=am (Za2 (Zc BK7z.out pl) hkp (fun e_=>Kd.R_ne HO72z.out BK7z.out (by decide) e_))
    replace BK14z:=am (Za2 (Zc BK14z.out pl) hkp (fun e_=>Kd.R_ne HO72z.out BK14z.out (by decide) e_))
    replace HO42z:=am (Kd.Zhb (ok':=fun k_=>((P0_1_ k_\/P1_1_ k_)\/w.heap.size<=k_)/\some k_ ≠ (.slice Ao67z t389.length co68z:Value).ownBlock/\k_ ≠ gb0z/\k_ ≠ gb5z/\k_ ≠ gb12z/\some k_ ≠ (v77z:Value).ownBlock) (Kd.Zni (HO42z.out) hkp (fun k_ hk_ hs_=>(hk_.2) hs_)) (fun k_ hk_=>⟨hk_.1.1.1.1,hk_.1.1.2,hk_.1.1.1.2.1,hk_.1.1.1.2.2.1,hk_.1.1.1.2.2.2,fun e_=>Or.elim (ho65z.1 k_ e_.symm) (fun hs_=>hk_.2.1 hs_) (fun hn_=>Nat.not_le.2 hk_.2.2 hn_)⟩))
    replace HO66z:=am (Kd.Zi (ok':=fun k_=>(w.heap.size<=k_)/\some k_ ≠ (v77z:Value).ownBlock) (Kd.Zcl (HO66z.out) hkp (fun k_ hk_ hs_=>(hk_.2) hs_)) (fun k_ hk_=>⟨hk_.1.1.1,fun e_=>Or.elim (ho65z.1 k_ e_.symm) (fun hs_=>hk_.2.1 hs_) (fun hn_=>Nat.not_le.2 hk_.2.2 hn_)⟩))
    replace HB:=am hb
    clear HO72z
    obtain ⟨Ao79z,co80z,eo81z⟩:=Kd.Zm HO78z.out
    (first|subst eo81z|(injection eo81z with f1_ f2_ f3_;have f4_:=f1_.symm;have f5_:=f3_.symm;clear f1_ f2_ f3_;subst f4_;subst f5_))
    refine hK.out _ _ ⟨k0 BK2z 0,k0 BK2z 1,k0 BK2z 2,k0 BK7z 0,k0 BK7z 1,k0 BK7z 2⟩ (fun hHeld=>?_)
    clear hK K
    refine norm_ (a':=?_) ?_ ?_
    rotate_left
    ·show Act.put _ (some 45) _=_
     exact pP
    refine one_ (i:=10) (N:=some 48) #[true,true,true,true,true,true,true,true,true,true,true,false,false,false,false,false,false,false] rfl rfl (Zbx HT_.out (by kernel_rfl)) (by decide) (fun K hK=>?_)
    refine goes_ Tryz.func69 (by kernel_rfl) rfl #[.slice Ao79z t396.length co80z,.slice A1_1 l1_1.length c1_1] (by rfl) rfl rfl pA ?_
    with_reducible refine (Zdm.calls k _ _ t396 _ _ l1_1 t399 t400 t401 _ ?side1 ?side2 ?side3 ?side4 A26.out).mono ?_
    (case side1=>exact Kd.Zh (Kd.Zd HO78z.out).2.2 pl)
    (case side2=>exact (Kd.Zd HO78z.out).2.1)
    (case side3=>exact Kd.Zh (Kd.Zcg HO1_1.out).2.2 pl)
    (case side4=>exact (Kd.Zcg HO1_1.out).2.1)
    rintro e w82z ⟨v83z,v84z,rfl,ho65z,ho85z,hb⟩
    refine ⟨_,rfl,?_⟩
    have HO86z:=am (Kd.Zq (Kd.Zv (Kd.Zv (Kd.Zep (M:=fun k_=>(w.heap.size<=k_)) ho65z (Zb pB) (fun k_ h_=>h_)) (Kd.R_lt (Kd.Za HO66z.out pl))) (Kd.R_lt (Kd.Za HO78z.out pl))) (Zb pB))
    have HO87z:=am (Kd.Zq (Kd.Zv (Kd.Zv (Kd.Zep (M:=fun k_=>(w.heap.size<=k_)) ho85z (Zb pB) (fun k_ h_=>h_)) (Kd.R_lt (Kd.Za HO66z.out pl))) (Kd.R_lt (Kd.Za HO78z.out pl))) (Zb pB))
    replace HO0_1:=am (Kd.Zdj (Kd.Zgw (Kd.Zgw (Kd.Zpq (Kd.Zcp HO0_1.out pl) hb) (Kd.Zat ho65z)) (Kd.Zat ho85z)) (fun _ h_=>h_.1))
    replace HO1_1:=am (Kd.Zdj (Kd.Zgw (Kd.Zgw (Kd.Zpq (Kd.Zcp HO1_1.out pl) hb) (Kd.Zat ho65z)) (Kd.Zat ho85z)) (fun _ h_=>h_.1))
    replace HO42z:=am (Kd.Zhb (Kd.Zlh (Kd.Zlh (Kd.Zsg (Kd.Zdt HO42z.out pl) hb) (Kd.Zat ho65z)) (Kd.Zat ho85z)) (fun _ h_=>h_.1))
    replace HO66z:=am (Kd.Zi (Kd.Zc7 (Kd.Zc7 (Kd.Zgh (Kd.Za HO66z.out pl) hb) (Kd.Zat ho65z)) (Kd.Zat ho85z)) (fun _ h_=>h_.1))
    replace HO78z:=am (Kd.Zi (Kd.Zc7 (Kd.Zc7 (Kd.Zgh (Kd.Za HO78z.out pl) hb) (Kd.Zat ho65z)) (Kd.Zat ho85z)) (fun _ h_=>h_.1))
    replace BK2z:=bb BK2z hb
    replace BK7z:=bb BK7z hb
    replace BK14z:=bb BK14z hb
    replace HB:=bS hb
    refine hK.out _ _ ⟨k0 BK2z 0,k0 BK2z 1,k0 BK2z 2,k0 BK7z 0,k0 BK7z 1,k0 BK7z 2⟩ (fun hHeld=>?_)
    clear hK K
    refine norm_ (a':=?_) ?_ ?_
    rotate_left
    ·show Act.put _ (some 48) _=_
     exact pP
    refine pu 11 (some 37) #[true,true,true,true,true,true,true,true,true,true,true,true,false,false,false,false,false,false] (h:=?_)
    refine pu 12 (some 49) #[true,true,true,true,true,true,true,true,true,true,true,true,true,false,false,false,false,false] (h:=?_)
    refine pu 13 (some 50) #[true,true,true,true,true,true,true,true,true,true,true,true,true,true,false,false,false,false] (h:=?_)
    refine pu 14 (some 51) #[true,true,true,true,true,true,true,true,true,true,true,true,true,true,true,false,false,false] (h:=?_)
    refine pu 15 (some 8) #[true,true,true,true,true,true,true,true,true,true,true,true,true,true,true,true,false,false] (h:=?_)
    refine pu 16 (some 9) #[true,true,true,true,true,true,true,true,true,true,true,true,true,true,true,true,true,false] (h:=?_)
    refine pu 17 (some 10) #[true,true,true,true,true,true,true,true,true,true,true,true,true,true,true,true,true,true] (h:=?_)
    refine done_ (Zdl HT_.out (by kernel_rfl)) ?_
    obtain ⟨Ao88z,co89z,eo90z⟩:=Kd.Zm HO86z.out
    subst eo90z
    try go_wp2_with (first|(refine gL (some 54) Tryz.func73 #[.slice Ao88z t399.length co89z,.int .i64 40] (h:=?_);(with_reducible refine (Zcb.calls k _ _ t399 40 t406 t407 t408 _ ?side1 ?side2 A27.out).mono ?_);(case side1=>exact Kd.Zh (Kd.Zd HO86z.out).2.2 pl);(case side2=>exact (Kd.Zd HO86z.out).2.1);rintro e w91z ⟨v92z,v93z,rfl,ho65z,ho85z,hb⟩;refine ⟨_,rfl,?_⟩;have HO94z:=am (Kd.Zq (Kd.Zv (Kd.Zv (Kd.Zv (Kd.Zv (Kd.Zep (M:=fun k_=>(w.heap.size<=k_)) ho65z (Zb pB) (fun k_ h_=>h_)) (Kd.R_lt (Kd.Za HO66z.out pl))) (Kd.R_lt (Kd.Za HO78z.out pl))) (Kd.R_lt (Kd.Za HO86z.out pl))) (Kd.R_lt (Kd.Za HO87z.out pl))) (Zb pB));have HO95z:=am (Kd.Zq (Kd.Zv (Kd.Zv (Kd.Zv (Kd.Zv (Kd.Zep (M:=fun k_=>(w.heap.size<=k_)) ho85z (Zb pB) (fun k_ h_=>h_)) (Kd.R_lt (Kd.Za HO66z.out pl))) (Kd.R_lt (Kd.Za HO78z.out pl))) (Kd.R_lt (Kd.Za HO86z.out pl))) (Kd.R_lt (Kd.Za HO87z.out pl))) (Zb pB));replace HO0_1:=am (Kd.Zdj (Kd.Zgw (Kd.Zgw (Kd.Zpq (Kd.Zcp HO0_1.out pl) hb) (Kd.Zat ho65z)) (Kd.Zat ho85z)) (fun _ h_=>h_.1));replace HO1_1:=am (Kd.Zdj (Kd.Zgw (Kd.Zgw (Kd.Zpq (Kd.Zcp HO1_1.out pl) hb) (Kd.Zat ho65z)) (Kd.Zat ho85z)) (fun _ h_=>h_.1));replace HO42z:=am (Kd.Zhb (Kd.Zlh (Kd.Zlh (Kd.Zsg (Kd.Zdt HO42z.out pl) hb) (Kd.Zat ho65z)) (Kd.Zat ho85z)) (fun _ h_=>h_.1));replace HO66z:=am (Kd.Zi (Kd.Zc7 (Kd.Zc7 (Kd.Zgh (Kd.Za HO66z.out pl) hb) (Kd.Zat ho65z)) (Kd.Zat ho85z)) (fun _ h_=>h_.1));replace HO78z:=am (Kd.Zi (Kd.Zc7 (Kd.Zc7 (Kd.Zgh (Kd.Za HO78z.out pl) hb) (Kd.Zat ho65z)) (Kd.Zat ho85z)) (fun _ h_=>h_.1));replace HO86z:=am (Kd.Zi (Kd.Zc7 (Kd.Zc7 (Kd.Zgh (Kd.Za HO86z.out pl) hb) (Kd.Zat ho65z)) (Kd.Zat ho85z)) (fun _ h_=>h_.1));replace HO87z:=am (Kd.Zi (Kd.Zc7 (Kd.Zc7 (Kd.Zgh (Kd.Za HO87z.out pl) hb) (Kd.Zat ho65z)) (Kd.Zat ho85z)) (fun _ h_=>h_.1));replace BK2z:=bb BK2z hb;replace BK7z:=bb BK7z hb;replace BK14z:=bb BK14z hb;replace HB:=bS hb;obtain ⟨Ao96z,co97z,eo98z⟩:=Kd.Zm HO87z.out;subst eo98z;obtain ⟨Ao99z,co100z,eo101z⟩:=Kd.Zm HO94z.out;subst eo101z;obtain ⟨Ao102z,co103z,eo104z⟩:=Kd.Zm HO95z.out;subst eo104z)|(refine gL (some 64) Tryz.func74 #[.slice Ao99z t406.length co100z,.slice Ao102z t407.length co103z,.int .i64 t408,.bool (decide (0 < t400.length))] (h:=?_);(with_reducible refine (Zbi.calls k _ _ t406 _ _ t407 t408 (decide (0 < t400.length)) true _ ?side1 ?side2 ?side3 ?side4 A28.out).mono ?_);(case side1=>exact Kd.Zh (Kd.Zd HO94z.out).2.2 pl);(case side2=>exact (Kd.Zd HO94z.out).2.1);(case side3=>exact Kd.Zh (Kd.Zd HO95z.out).2.2 pl);(case side4=>exact (Kd.Zd HO95z.out).2.1);rintro e w105z ⟨rfl,hb⟩;refine ⟨_,rfl,?_⟩;replace HO0_1:=vbl HO0_1 hb;replace HO1_1:=vbl HO1_1 hb;replace HO42z:=nbl HO42z hb;replace HO66z:=rbl HO66z hb;replace HO78z:=rbl HO78z hb;replace HO86z:=rbl HO86z hb;replace HO87z:=rbl HO87z hb;replace HO94z:=rbl HO94z hb;replace HO95z:=rbl HO95z hb;replace BK2z:=bb BK2z hb;replace BK7z:=bb BK7z hb;replace BK14z:=bb BK14z hb;replace HB:=bS hb)|(refine gL (some 66) Tryz.func76 #[.int .u64 1] (h:=?_);(with_reducible refine (Zc4.calls k 1 t414 _ A30.out).mono ?_);rintro e w106z ⟨v107z,rfl,ho65z,hb⟩;refine ⟨_,rfl,?_⟩;have HO108z:=am (Kd.Zq (Kd.Zv (Kd.Zv (Kd.Zv (Kd.Zv (Kd.Zv (Kd.Zv (Kd.Zep (M:=fun k_=>(w.heap.size<=k_)) ho65z (Zb pB) (fun k_ h_=>h_)) (Kd.R_lt (Kd.Za HO66z.out pl))) (Kd.R_lt (Kd.Za HO78z.out pl))) (Kd.R_lt (Kd.Za HO86z.out pl))) (Kd.R_lt (Kd.Za HO87z.out pl))) (Kd.R_lt (Kd.Za HO94z.out pl))) (Kd.R_lt (Kd.Za HO95z.out pl))) (Zb pB));replace HO0_1:=am (Kd.Zc8 (Kd.Zcp HO0_1.out pl) (Kd.Zat ho65z) hb);replace HO1_1:=am (Kd.Zc8 (Kd.Zcp HO1_1.out pl) (Kd.Zat ho65z) hb);replace HO42z:=am (Kd.Zff (Kd.Zdt HO42z.out pl) (Kd.Zat ho65z) hb);replace HO66z:=reR HO66z ho65z hb;replace HO78z:=reR HO78z ho65z hb;replace HO86z:=reR HO86z ho65z hb;replace HO87z:=reR HO87z ho65z hb;replace HO94z:=reR HO94z ho65z hb;replace HO95z:=reR HO95z ho65z hb;replace BK2z:=bb BK2z hb;replace BK7z:=bb BK7z hb;replace BK14z:=bb BK14z hb;replace HB:=bS hb;obtain ⟨Ao109z,co110z,eo111z⟩:=Kd.Zm HO108z.out;subst eo111z)|(refine gL (some 67) Tryz.func75 #[.slice Ao99z t406.length co100z,.slice Ao109z t414.length co110z] (h:=?_);(with_reducible refine (Ze8.calls k _ _ t406 _ _ t414 t417 t418 _ ?side1 ?side2 ?side3 ?side4 A31.out).mono ?_);(case side1=>exact Kd.Zh (Kd.Zd HO94z.out).2.2 pl);(case side2=>exact (Kd.Zd HO94z.out).2.1);(case side3=>exact Kd.Zh (Kd.Zd HO108z.out).2.2 pl);(case side4=>exact (Kd.Zd HO108z.out).2.1);rintro e w112z ⟨v113z,rfl,ho65z,hb⟩;refine ⟨_,rfl,?_⟩;have HO114z:=am (Kd.Zq (Kd.Zv (Kd.Zv (Kd.Zv (Kd.Zv (Kd.Zv (Kd.Zv (Kd.Zv (Kd.Zep (M:=fun k_=>(w.heap.size<=k_)) ho65z (Zb pB) (fun k_ h_=>h_)) (Kd.R_lt (Kd.Za HO66z.out pl))) (Kd.R_lt (Kd.Za HO78z.out pl))) (Kd.R_lt (Kd.Za HO86z.out pl))) (Kd.R_lt (Kd.Za HO87z.out pl))) (Kd.R_lt (Kd.Za HO94z.out pl))) (Kd.R_lt (Kd.Za HO95z.out pl))) (Kd.R_lt (Kd.Za HO108z.out pl))) (Zb pB));replace HO0_1:=am (Kd.Zc8 (Kd.Zcp HO0_1.out pl) (Kd.Zat ho65z) hb);replace HO1_1:=am (Kd.Zc8 (Kd.Zcp HO1_1.out pl) (Kd.Zat ho65z) hb);replace HO42z:=am (Kd.Zff (Kd.Zdt HO42z.out pl) (Kd.Zat ho65z) hb);replace HO66z:=reR HO66z ho65z hb;replace HO78z:=reR HO78z ho65z hb;replace HO86z:=reR HO86z ho65z hb;replace HO87z:=reR HO87z ho65z hb;replace HO94z:=reR HO94z ho65z hb;replace HO95z:=reR HO95z ho65z hb;replace HO108z:=reR HO108z ho65z hb;replace BK2z:=bb BK2z hb;replace BK7z:=bb BK7z hb;replace BK14z:=bb BK14z hb;replace HB:=bS hb;obtain ⟨Ao115z,co116z,eo117z⟩:=Kd.Zm HO114z.out;subst eo117z)|(refine gL (some 70) Tryz.func70 #[.slice Ao115z t417.length co116z,.int .i64 t418] (h:=?_);(with_reducible refine (Zy.calls (fun k_=>some k_=(.slice Ao115z t417.length co116z:Value).ownBlock) (.slice Ao115z t417.length co116z) t417 t418 t421 w _ ?side1 ?side2 A32.out).mono ?_);(case side1=>exact pB);(case side2=>exact Kd.Zbr rfl HO114z.out);rintro e w118z ⟨v119z,rfl,ho65z,hb,hkp⟩;refine ⟨_,rfl,?_⟩;have HO120z:=am (Kd.Zi (ok':=fun k_=>(w.heap.size<=k_)/\some k_ ≠ (.slice Ao67z t389.length co68z:Value).ownBlock/\some k_ ≠ (.slice Ao79z t396.length co80z:Value).ownBlock/\some k_ ≠ (.slice Ao88z t399.length co89z:Value).ownBlock/\some k_ ≠ (.slice Ao96z t400.length co97z:Value).ownBlock/\some k_ ≠ (.slice Ao99z t406.length co100z:Value).ownBlock/\some k_ ≠ (.slice Ao102z t407.length co103z:Value).ownBlock/\some k_ ≠ (.slice Ao109z t414.length co110z:Value).ownBlock) ho65z (fun k_ hk_=>⟨Or.elim hk_ (fun hs_=>(HO114z.out.1 k_ (hs_).symm).1.1.1.1.1.1.1.1) (fun hn_=>(Nat.le_trans (Zb pB) hn_)),Or.elim hk_ (fun hs_=>fun e_=>(((HO66z.out).1 k_ e_.symm).2) hs_) (fun hn_=>(Kd.fresh' (Kd.R_lt (Kd.Za HO66z.out pl)) k_ hn_)),Or.elim hk_ (fun hs_=>fun e_=>(((HO78z.out).1 k_ e_.symm).2) hs_) (fun hn_=>(Kd.fresh' (Kd.R_lt (Kd.Za HO78z.out pl)) k_ hn_)),Or.elim hk_ (fun hs_=>fun e_=>(((HO86z.out).1 k_ e_.symm).2) hs_) (fun hn_=>(Kd.fresh' (Kd.R_lt (Kd.Za HO86z.out pl)) k_ hn_)),Or.elim hk_ (fun hs_=>fun e_=>(((HO87z.out).1 k_ e_.symm).2) hs_) (fun hn_=>(Kd.fresh' (Kd.R_lt (Kd.Za HO87z.out pl)) k_ hn_)),Or.elim hk_ (fun hs_=>fun e_=>(((HO94z.out).1 k_ e_.symm).2) hs_) (fun hn_=>(Kd.fresh' (Kd.R_lt (Kd.Za HO94z.out pl)) k_ hn_)),Or.elim hk_ (fun hs_=>fun e_=>(((HO95z.out).1 k_ e_.symm).2) hs_) (fun hn_=>(Kd.fresh' (Kd.R_lt (Kd.Za HO95z.out pl)) k_ hn_)),Or.elim hk_ (fun hs_=>fun e_=>(((HO108z.out).1 k_ e_.symm).2) hs_) (fun hn_=>(Kd.fresh' (Kd.R_lt (Kd.Za HO108z.out pl)) k_ hn_))⟩));replace HO0_1:=am (Kd.Zdj (ok':=fun k_=>((P0_1_ k_\/P1_1_ k_)\/w.heap.size<=k_)/\some k_ ≠ (.slice Ao43z y383.length co44z:Value).ownBlock/\some k_ ≠ (.slice Ao67z t389.length co68z:Value).ownBlock/\some k_ ≠ (.slice Ao79z t396.length co80z:Value).ownBlock/\some k_ ≠ (.slice Ao88z t399.length co89z:Value).ownBlock/\some k_ ≠ (.slice Ao96z t400.length co97z:Value).ownBlock/\some k_ ≠ (.slice Ao99z t406.length co100z:Value).ownBlock/\some k_ ≠ (.slice Ao102z t407.length co103z:Value).ownBlock/\some k_ ≠ (.slice Ao109z t414.length co110z:Value).ownBlock/\k_ ≠ gb0z/\k_ ≠ gb5z/\k_ ≠ gb12z/\some k_ ≠ (v119z:Value).ownBlock) (Kd.Zhi (HO0_1.out) hkp (fun k_ hk_ hs_=>(hk_.2) hs_)) (fun k_ hk_=>⟨hk_.1.1.1.1.1.1.1.1,hk_.1.1.1.1.1.1.1.2.1,hk_.1.1.1.1.1.1.1.2.2.1,hk_.1.1.1.1.1.1.1.2.2.2.2.2.2,hk_.1.1.1.1.1.1.2,hk_.1.1.1.1.1.2,hk_.1.1.1.1.2,hk_.1.1.1.2,hk_.1.1.2,hk_.1.1.1.1.1.1.1.2.2.2.1,hk_.1.1.1.1.1.1.1.2.2.2.2.1,hk_.1.1.1.1.1.1.1.2.2.2.2.2.1,fun e_=>Or.elim (ho65z.1 k_ e_.symm) (fun hs_=>hk_.2.1 hs_) (fun hn_=>Nat.not_le.2 hk_.2.2 hn_)⟩));replace HO1_1:=am (Kd.Zdj (ok':=fun k_=>((P0_1_ k_\/P1_1_ k_)\/w.heap.size<=k_)/\some k_ ≠ (.slice Ao43z y383.length co44z:Value).ownBlock/\some k_ ≠ (.slice Ao67z t389.length co68z:Value).ownBlock/\some k_ ≠ (.slice Ao79z t396.length co80z:Value).ownBlock/\some k_ ≠ (.slice Ao88z t399.length co89z:Value).ownBlock/\some k_ ≠ (.slice Ao96z t400.length co97z:Value).ownBlock/\some k_ ≠ (.slice Ao99z t406.length co100z:Value).ownBlock/\some k_ ≠ (.slice Ao102z t407.length co103z:Value).ownBlock/\some k_ ≠ (.slice Ao109z t414.length co110z:Value).ownBlock/\k_ ≠ gb0z/\k_ ≠ gb5z/\k_ ≠ gb12z/\some k_ ≠ (v119z:Value).ownBlock) (Kd.Zhi (HO1_1.out) hkp (fun k_ hk_ hs_=>(hk_.2) hs_)) (fun k_ hk_=>⟨hk_.1.1.1.1.1.1.1.1,hk_.1.1.1.1.1.1.1.2.1,hk_.1.1.1.1.1.1.1.2.2.1,hk_.1.1.1.1.1.1.1.2.2.2.2.2.2,hk_.1.1.1.1.1.1.2,hk_.1.1.1.1.1.2,hk_.1.1.1.1.2,hk_.1.1.1.2,hk_.1.1.2,hk_.1.1.1.1.1.1.1.2.2.2.1,hk_.1.1.1.1.1.1.1.2.2.2.2.1,hk_.1.1.1.1.1.1.1.2.2.2.2.2.1,fun e_=>Or.elim (ho65z.1 k_ e_.symm) (fun hs_=>hk_.2.1 hs_) (fun hn_=>Nat.not_le.2 hk_.2.2 hn_)⟩));replace BK2z:=am (Za2 (Zc BK2z.out pl) hkp (fun e_=>Kd.R_ne HO114z.out BK2z.out (by decide) e_));replace BK7z:=am (Za2 (Zc BK7z.out pl) hkp (fun e_=>Kd.R_ne HO114z.out BK7z.out (by decide) e_));replace BK14z:=am (Za2 (Zc BK14z.out pl) hkp (fun e_=>Kd.R_ne HO114z.out BK14z.out (by decide) e_));replace HO42z:=am (Kd.Zhb (ok':=fun k_=>((P0_1_ k_\/P1_1_ k_)\/w.heap.size<=k_)/\some k_ ≠ (.slice Ao67z t389.length co68z:Value).ownBlock/\some k_ ≠ (.slice Ao79z t396.length co80z:Value).ownBlock/\some k_ ≠ (.slice Ao88z t399.length co89z:Value).ownBlock/\some k_ ≠ (.slice Ao96z t400.length co97z:Value).ownBlock/\some k_ ≠ (.slice Ao99z t406.length co100z:Value).ownBlock/\some k_ ≠ (.slice Ao102z t407.length co103z:Value).ownBlock/\some k_ ≠ (.slice Ao109z t414.length co110z:Value).ownBlock/\k_ ≠ gb0z/\k_ ≠ gb5z/\k_ ≠ gb12z/\some k_ ≠ (v119z:Value).ownBlock) (Kd.Zni (HO42z.out) hkp (fun k_ hk_ hs_=>(hk_.2) hs_)) (fun k_ hk_=>⟨hk_.1.1.1.1.1.1.1.1,hk_.1.1.1.1.1.1.1.2.1,hk_.1.1.1.1.1.1.1.2.2.2.2.2,hk_.1.1.1.1.1.1.2,hk_.1.1.1.1.1.2,hk_.1.1.1.1.2,hk_.1.1.1.2,hk_.1.1.2,hk_.1.1.1.1.1.1.1.2.2.1,hk_.1.1.1.1.1.1.1.2.2.2.1,hk_.1.1.1.1.1.1.1.2.2.2.2.1,fun e_=>Or.elim (ho65z.1 k_ e_.symm) (fun hs_=>hk_.2.1 hs_) (fun hn_=>Nat.not_le.2 hk_.2.2 hn_)⟩));replace HO66z:=am (Kd.Zi (ok':=fun k_=>(w.heap.size<=k_)/\some k_ ≠ (.slice Ao79z t396.length co80z:Value).ownBlock/\some k_ ≠ (.slice Ao88z t399.length co89z:Value).ownBlock/\some k_ ≠ (.slice Ao96z t400.length co97z:Value).ownBlock/\some k_ ≠ (.slice Ao99z t406.length co100z:Value).ownBlock/\some k_ ≠ (.slice Ao102z t407.length co103z:Value).ownBlock/\some k_ ≠ (.slice Ao109z t414.length co110z:Value).ownBlock/\some k_ ≠ (v119z:Value).ownBlock) (Kd.Zcl (HO66z.out) hkp (fun k_ hk_ hs_=>(hk_.2) hs_)) (fun k_ hk_=>⟨hk_.1.1.1.1.1.1.1.1,hk_.1.1.1.1.1.1.1.2,hk_.1.1.1.1.1.1.2,hk_.1.1.1.1.1.2,hk_.1.1.1.1.2,hk_.1.1.1.2,hk_.1.1.2,fun e_=>Or.elim (ho65z.1 k_ e_.symm) (fun hs_=>hk_.2.1 hs_) (fun hn_=>Nat.not_le.2 hk_.2.2 hn_)⟩));replace HO78z:=am (Kd.Zi (ok':=fun k_=>(w.heap.size<=k_)/\some k_ ≠ (.slice Ao67z t389.length co68z:Value).ownBlock/\some k_ ≠ (.slice Ao88z t399.length co89z:Value).ownBlock/\some k_ ≠ (.slice Ao96z t400.length co97z:Value).ownBlock/\some k_ ≠ (.slice Ao99z t406.length co100z:Value).ownBlock/\some k_ ≠ (.slice Ao102z t407.length co103z:Value).ownBlock/\some k_ ≠ (.slice Ao109z t414.length co110z:Value).ownBlock/\some k_ ≠ (v119z:Value).ownBlock) (Kd.Zcl (HO78z.out) hkp (fun k_ hk_ hs_=>(hk_.2) hs_)) (fun k_ hk_=>⟨hk_.1.1.1.1.1.1.1.1,hk_.1.1.1.1.1.1.1.2,hk_.1.1.1.1.1.1.2,hk_.1.1.1.1.1.2,hk_.1.1.1.1.2,hk_.1.1.1.2,hk_.1.1.2,fun e_=>Or.elim (ho65z.1 k_ e_.symm) (fun hs_=>hk_.2.1 hs_) (fun hn_=>Nat.not_le.2 hk_.2.2 hn_)⟩));replace HO86z:=am (Kd.Zi (ok':=fun k_=>(w.heap.size<=k_)/\some k_ ≠ (.slice Ao67z t389.length co68z:Value).ownBlock/\some k_ ≠ (.slice Ao79z t396.length co80z:Value).ownBlock/\some k_ ≠ (.slice Ao96z t400.length co97z:Value).ownBlock/\some k_ ≠ (.slice Ao99z t406.length co100z:Value).ownBlock/\some k_ ≠ (.slice Ao102z t407.length co103z:Value).ownBlock/\some k_ ≠ (.slice Ao109z t414.length co110z:Value).ownBlock/\some k_ ≠ (v119z:Value).ownBlock) (Kd.Zcl (HO86z.out) hkp (fun k_ hk_ hs_=>(hk_.2) hs_)) (fun k_ hk_=>⟨hk_.1.1.1.1.1.1.1.1,hk_.1.1.1.1.1.1.2,hk_.1.1.1.1.1.2,hk_.1.1.1.1.1.1.1.2,hk_.1.1.1.1.2,hk_.1.1.1.2,hk_.1.1.2,fun e_=>Or.elim (ho65z.1 k_ e_.symm) (fun hs_=>hk_.2.1 hs_) (fun hn_=>Nat.not_le.2 hk_.2.2 hn_)⟩));replace HO87z:=am (Kd.Zi (ok':=fun k_=>(w.heap.size<=k_)/\some k_ ≠ (.slice Ao67z t389.length co68z:Value).ownBlock/\some k_ ≠ (.slice Ao79z t396.length co80z:Value).ownBlock/\some k_ ≠ (.slice Ao88z t399.length co89z:Value).ownBlock/\some k_ ≠ (.slice Ao99z t406.length co100z:Value).ownBlock/\some k_ ≠ (.slice Ao102z t407.length co103z:Value).ownBlock/\some k_ ≠ (.slice Ao109z t414.length co110z:Value).ownBlock/\some k_ ≠ (v119z:Value).ownBlock) (Kd.Zcl (HO87z.out) hkp (fun k_ hk_ hs_=>(hk_.2) hs_)) (fun k_ hk_=>⟨hk_.1.1.1.1.1.1.1.1,hk_.1.1.1.1.1.1.2,hk_.1.1.1.1.1.2,hk_.1.1.1.1.1.1.1.2,hk_.1.1.1.1.2,hk_.1.1.1.2,hk_.1.1.2,fun e_=>Or.elim (ho65z.1 k_ e_.symm) (fun hs_=>hk_.2.1 hs_) (fun hn_=>Nat.not_le.2 hk_.2.2 hn_)⟩));replace HO94z:=am (Kd.Zi (ok':=fun k_=>(w.heap.size<=k_)/\some k_ ≠ (.slice Ao67z t389.length co68z:Value).ownBlock/\some k_ ≠ (.slice Ao79z t396.length co80z:Value).ownBlock/\some k_ ≠ (.slice Ao88z t399.length co89z:Value).ownBlock/\some k_ ≠ (.slice Ao96z t400.length co97z:Value).ownBlock/\some k_ ≠ (.slice Ao102z t407.length co103z:Value).ownBlock/\some k_ ≠ (.slice Ao109z t414.length co110z:Value).ownBlock/\some k_ ≠ (v119z:Value).ownBlock) (Kd.Zcl (HO94z.out) hkp (fun k_ hk_ hs_=>(hk_.2) hs_)) (fun k_ hk_=>⟨hk_.1.1.1.1.1.1.1.1,hk_.1.1.1.1.1.1.2,hk_.1.1.1.1.1.2,hk_.1.1.1.1.2,hk_.1.1.1.2,hk_.1.1.1.1.1.1.1.2,hk_.1.1.2,fun e_=>Or.elim (ho65z.1 k_ e_.symm) (fun hs_=>hk_.2.1 hs_) (fun hn_=>Nat.not_le.2 hk_.2.2 hn_)⟩));replace HO95z:=am (Kd.Zi (ok':=fun k_=>(w.heap.size<=k_)/\some k_ ≠ (.slice Ao67z t389.length co68z:Value).ownBlock/\some k_ ≠ (.slice Ao79z t396.length co80z:Value).ownBlock/\some k_ ≠ (.slice Ao88z t399.length co89z:Value).ownBlock/\some k_ ≠ (.slice Ao96z t400.length co97z:Value).ownBlock/\some k_ ≠ (.slice Ao99z t406.length co100z:Value).ownBlock/\some k_ ≠ (.slice Ao109z t414.length co110z:Value).ownBlock/\some k_ ≠ (v119z:Value).ownBlock) (Kd.Zcl (HO95z.out) hkp (fun k_ hk_ hs_=>(hk_.2) hs_)) (fun k_ hk_=>⟨hk_.1.1.1.1.1.1.1.1,hk_.1.1.1.1.1.1.2,hk_.1.1.1.1.1.2,hk_.1.1.1.1.2,hk_.1.1.1.2,hk_.1.1.1.1.1.1.1.2,hk_.1.1.2,fun e_=>Or.elim (ho65z.1 k_ e_.symm) (fun hs_=>hk_.2.1 hs_) (fun hn_=>Nat.not_le.2 hk_.2.2 hn_)⟩));replace HO108z:=am (Kd.Zi (ok':=fun k_=>(w.heap.size<=k_)/\some k_ ≠ (.slice Ao67z t389.length co68z:Value).ownBlock/\some k_ ≠ (.slice Ao79z t396.length co80z:Value).ownBlock/\some k_ ≠ (.slice Ao88z t399.length co89z:Value).ownBlock/\some k_ ≠ (.slice Ao96z t400.length co97z:Value).ownBlock/\some k_ ≠ (.slice Ao99z t406.length co100z:Value).ownBlock/\some k_ ≠ (.slice Ao102z t407.length co103z:Value).ownBlock/\some k_ ≠ (v119z:Value).ownBlock) (Kd.Zcl (HO108z.out) hkp (fun k_ hk_ hs_=>(hk_.2) hs_)) (fun k_ hk_=>⟨hk_.1.1.1.1.1.1.1.1.1,hk_.1.1.1.1.1.1.1.2,hk_.1.1.1.1.1.1.2,hk_.1.1.1.1.1.2,hk_.1.1.1.1.2,hk_.1.1.1.2,hk_.1.1.2,fun e_=>Or.elim (ho65z.1 k_ e_.symm) (fun hs_=>hk_.2.1 hs_) (fun hn_=>Nat.not_le.2 hk_.2.2 hn_)⟩));replace HB:=am hb;clear HO114z;obtain ⟨hcz121z,hcz122z,hcz123z,hfz124z,hfz125z,hfz126z⟩:=cEc BK2z.out;obtain ⟨hcz127z,hcz128z,hcz129z,hfz130z,hfz131z,hfz132z⟩:=cEc BK7z.out;obtain ⟨Ao133z,co134z,eo135z⟩:=Kd.Zm HO120z.out;subst eo135z)|((with_reducible refine Zdw (f:=60) rfl ?_);refine goesL_ (some 86) rfl rfl Tryz.func60 (by kernel_rfl) rfl #[.bool (a0_0 != a1_0),.slice Ao133z t421.length co134z,.int .i64 (wrap64 ((wrap64 ((wrap64 (a0_2 - a1_2)) - (ji22))) + t408))] rfl (by (try simp only [List.map_toArray,List.map_cons,List.map_nil]);first|done|(simp only [hji22];rfl)|rfl|(simp only [List.length_drop,List.length_take];rfl)) ?_;(with_reducible refine (Zax.calls k (a0_0 != a1_0) _ _ t421 (wrap64 ((wrap64 ((wrap64 (a0_2 - a1_2)) - (ji22))) + t408)) t424 t425 t428 t429 _ ?side1 ?side2 A33.out).mono ?_);(case side1=>exact Kd.Zh (Kd.Zd HO120z.out).2.2 pl);(case side2=>exact (Kd.Zd HO120z.out).2.1);rintro e w136z ⟨v137z,rfl,ho65z,hb⟩;refine ⟨_,rfl,?_⟩;have HO138z:=am (Kd.Zq (Kd.Zv (Kd.Zv (Kd.Zv (Kd.Zv (Kd.Zv (Kd.Zv (Kd.Zv (Kd.Zv (Kd.Zep (M:=fun k_=>(w.heap.size<=k_)) ho65z (Zb pB) (fun k_ h_=>h_)) (Kd.R_lt (Kd.Za HO66z.out pl))) (Kd.R_lt (Kd.Za HO78z.out pl))) (Kd.R_lt (Kd.Za HO86z.out pl))) (Kd.R_lt (Kd.Za HO87z.out pl))) (Kd.R_lt (Kd.Za HO94z.out pl))) (Kd.R_lt (Kd.Za HO95z.out pl))) (Kd.R_lt (Kd.Za HO108z.out pl))) (Kd.R_lt (Kd.Za HO120z.out pl))) (Zb pB));replace HO0_1:=am (Kd.Zc8 (Kd.Zcp HO0_1.out pl) (Kd.Zat ho65z) hb);replace HO1_1:=am (Kd.Zc8 (Kd.Zcp HO1_1.out pl) (Kd.Zat ho65z) hb);replace HO42z:=am (Kd.Zff (Kd.Zdt HO42z.out pl) (Kd.Zat ho65z) hb);replace HO66z:=reR HO66z ho65z hb;replace HO78z:=reR HO78z ho65z hb;replace HO86z:=reR HO86z ho65z hb;replace HO87z:=reR HO87z ho65z hb;replace HO94z:=reR HO94z ho65z hb;replace HO95z:=reR HO95z ho65z hb;replace HO108z:=reR HO108z ho65z hb;replace HO120z:=reR HO120z ho65z hb;replace BK2z:=bb BK2z hb;replace BK7z:=bb BK7z hb;replace BK14z:=bb BK14z hb;replace HB:=bS hb;obtain ⟨hcz139z,hcz140z,hcz141z,hfz142z,hfz143z,hfz144z⟩:=cEc BK14z.out;obtain ⟨Ao145z,co146z,eo147z⟩:=Kd.Zm HO138z.out;subst eo147z)|(refine gL (some 64) Tryz.func74 #[.slice Ao99z t406.length co100z,.slice Ao102z t407.length co103z,.int .i64 t408,.bool (decide (0 < t400.length))] (h:=?_);(with_reducible refine (Zbi.calls k _ _ t406 _ _ t407 t408 (decide (0 < t400.length)) false _ ?side1 ?side2 ?side3 ?side4 A28.out).mono ?_);(case side1=>exact Kd.Zh (Kd.Zd HO94z.out).2.2 pl);(case side2=>exact (Kd.Zd HO94z.out).2.1);(case side3=>exact Kd.Zh (Kd.Zd HO95z.out).2.2 pl);(case side4=>exact (Kd.Zd HO95z.out).2.1);rintro e w105z ⟨rfl,hb⟩;refine ⟨_,rfl,?_⟩;replace HO0_1:=vbl HO0_1 hb;replace HO1_1:=vbl HO1_1 hb;replace HO42z:=nbl HO42z hb;replace HO66z:=rbl HO66z hb;replace HO78z:=rbl HO78z hb;replace HO86z:=rbl HO86z hb;replace HO87z:=rbl HO87z hb;replace HO94z:=rbl HO94z hb;replace HO95z:=rbl HO95z hb;replace BK2z:=bb BK2z hb;replace BK7z:=bb BK7z hb;replace BK14z:=bb BK14z hb;replace HB:=bS hb;obtain ⟨hcz106z,hcz107z,hcz108z,hfz109z,hfz110z,hfz111z⟩:=cEc BK2z.out;obtain ⟨hcz112z,hcz113z,hcz114z,hfz115z,hfz116z,hfz117z⟩:=cEc BK7z.out)|((with_reducible refine Zdw (f:=60) rfl ?_);refine goesL_ (some 86) rfl rfl Tryz.func60 (by kernel_rfl) rfl #[.bool (a0_0 != a1_0),.slice Ao99z t406.length co100z,.int .i64 (wrap64 ((wrap64 ((wrap64 (a0_2 - a1_2)) - (ji22))) + t408))] rfl (by (try simp only [List.map_toArray,List.map_cons,List.map_nil]);first|done|(simp only [hji22];rfl)|rfl|(simp only [List.length_drop,List.length_take];rfl)) ?_;(with_reducible refine (Zax.calls k (a0_0 != a1_0) _ _ t406 (wrap64 ((wrap64 ((wrap64 (a0_2 - a1_2)) - (ji22))) + t408)) t430 t431 t434 t435 _ ?side1 ?side2 A75.out).mono ?_);(case side1=>exact Kd.Zh (Kd.Zd HO94z.out).2.2 pl);(case side2=>exact (Kd.Zd HO94z.out).2.1);rintro e w118z ⟨v119z,rfl,ho65z,hb⟩;refine ⟨_,rfl,?_⟩;have HO120z:=am (Kd.Zq (Kd.Zv (Kd.Zv (Kd.Zv (Kd.Zv (Kd.Zv (Kd.Zv (Kd.Zep (M:=fun k_=>(w.heap.size<=k_)) ho65z (Zb pB) (fun k_ h_=>h_)) (Kd.R_lt (Kd.Za HO66z.out pl))) (Kd.R_lt (Kd.Za HO78z.out pl))) (Kd.R_lt (Kd.Za HO86z.out pl))) (Kd.R_lt (Kd.Za HO87z.out pl))) (Kd.R_lt (Kd.Za HO94z.out pl))) (Kd.R_lt (Kd.Za HO95z.out pl))) (Zb pB));replace HO0_1:=am (Kd.Zc8 (Kd.Zcp HO0_1.out pl) (Kd.Zat ho65z) hb);replace HO1_1:=am (Kd.Zc8 (Kd.Zcp HO1_1.out pl) (Kd.Zat ho65z) hb);replace HO42z:=am (Kd.Zff (Kd.Zdt HO42z.out pl) (Kd.Zat ho65z) hb);replace HO66z:=reR HO66z ho65z hb;replace HO78z:=reR HO78z ho65z hb;replace HO86z:=reR HO86z ho65z hb;replace HO87z:=reR HO87z ho65z hb;replace HO94z:=reR HO94z ho65z hb;replace HO95z:=reR HO95z ho65z hb;replace BK2z:=bb BK2z hb;replace BK7z:=bb BK7z hb;replace BK14z:=bb BK14z hb;replace HB:=bS hb;obtain ⟨hcz121z,hcz122z,hcz123z,hfz124z,hfz125z,hfz126z⟩:=cEc BK14z.out;obtain ⟨Ao127z,co128z,eo129z⟩:=Kd.Zm HO120z.out;subst eo129z))
    first
     | have q_:=A33
       refine bodyPost_ret (Za8 rfl _ _ gb12z 24 #[.bool t424,.slice Ao145z t425.length co146z,.int .i64 t428] (0,0) _ rfl (by exact p3 BK14z) Tryz.underlying24 rfl (by kernel_rfl)) rfl ?_
       exact ⟨_,by first|rfl|(simp [Zal,Zam] <;> rfl)|(simp only [<- hji22];first|rfl|(simp [Zal,Zam] <;> rfl))|(simp [*,Zal,Zam] <;> rfl),by refine rp ?_;exact Kd.Zi (Kd.Zn (p:=⟨gb12z,2,none⟩) (Kd.Zn (p:=⟨gb12z,1,none⟩) (Kd.Zn (p:=⟨gb12z,0,none⟩) (Kd.Zu HO138z.out BK14z.out (by decide)) (fun _ hk=>hk.2) (.bool t424)) (fun _ hk=>hk.2) (.slice Ao145z t425.length co146z)) (fun _ hk=>hk.2) (.int .i64 t428)) (fun _ hk=>hk.1.1.1.1.1.1.1.1.1.1),pB⟩
     | refine bodyPost_ret (Za8 rfl _ _ gb12z 24 #[.bool t430,.slice Ao127z t431.length co128z,.int .i64 t434] (0,0) _ rfl (by exact p3 BK14z) Tryz.underlying24 rfl (by kernel_rfl)) rfl ?_
       exact ⟨_,by first|rfl|(simp [Zal,Zam] <;> rfl)|(simp only [<- hji22];first|rfl|(simp [Zal,Zam] <;> rfl))|(simp [*,Zal,Zam] <;> rfl),by refine rp ?_;exact Kd.Zi (Kd.Zn (p:=⟨gb12z,2,none⟩) (Kd.Zn (p:=⟨gb12z,1,none⟩) (Kd.Zn (p:=⟨gb12z,0,none⟩) (Kd.Zu HO120z.out BK14z.out (by decide)) (fun _ hk=>hk.2) (.bool t430)) (fun _ hk=>hk.2) (.slice Ao127z t431.length co128z)) (fun _ hk=>hk.2) (.int .i64 t434)) (fun _ hk=>hk.1.1.1.1.1.1.1.1),pB⟩
  | refine bodyPost_ret (Za8 rfl _ _ gb12z 24 #[.bool false,.slice none 0 0,.int .i64 0] (0,0) _ rfl (by exact p3 BK14z) Tryz.underlying24 rfl (by kernel_rfl)) rfl ?_
    exact ⟨_,pE,pN,pB⟩):P:=h
theorem Zbq.calls (k:Nat) (a0_0:Bool) (P0_1_:Nat->Prop) (A0_1:Option Addr) (c0_1:Nat) (l0_1:List Int) (a0_2:Int) (a1_0:Bool) (P1_1_:Nat->Prop) (A1_1:Option Addr) (c1_1:Nat) (l1_1:List Int) (a1_2:Int) (r1:Bool) (r2:List Int) (r3:Int) (r4:Int) (w:World) (hs0_1:Kd.V (Kd.int .u32) 85 w w.heap.size (fun k_=>P0_1_ k_) (.slice A0_1 l0_1.length c0_1) l0_1) (hs1_1:Kd.V (Kd.int .u32) 85 w w.heap.size (fun k_=>P1_1_ k_) (.slice A1_1 l1_1.length c1_1) l1_1) (h:Zbq.f k a0_0 l0_1 a0_2 a1_0 l1_1 a1_2=some (r1,r2,r3,r4)) :
  Calls Tryz.prog 19 #[.agg #[.bool a0_0,.slice A0_1 l0_1.length c0_1,.int .i64 a0_2],.agg #[.bool a1_0,.slice A1_1 l1_1.length c1_1,.int .i64 a1_2]] w fun e w' => ∃ v1_:Value,e=.returned (.tuple #[.agg #[.bool r1,v1_,.int .i64 r3],.int .i64 r4])/\Kd.R (Kd.int .u32) 85 w' w.heap.size (fun k_=>(w.heap.size<=k_)) v1_ r2/\Below w.heap.size w w':=by
 have hu24:=Tryz.underlying24
 have HO0_1:=am (show Kd.V (Kd.int .u32) 85 w w.heap.size (fun k_=>((P0_1_ k_\/P1_1_ k_)\/w.heap.size<=k_)) (.slice A0_1 l0_1.length c0_1) l0_1 from Kd.Zdj hs0_1 (fun k_ hk=>.inl (.inl hk)))
 have HO1_1:=am (show Kd.V (Kd.int .u32) 85 w w.heap.size (fun k_=>((P0_1_ k_\/P1_1_ k_)\/w.heap.size<=k_)) (.slice A1_1 l1_1.length c1_1) l1_1 from Kd.Zdj hs1_1 (fun k_ hk=>.inl (.inr hk)))
 have HB:=am (Below.refl w.heap.size w)
 have H:((Zel.f k (([(⟨a0_0,l0_1,a0_2⟩:S24),(⟨a1_0,l1_1,a1_2⟩:S24)]:List (S24)))).bind fun t386=>(if t386=0 then (if (l1_1.length:Int)=0 then (some (false,([]:List Int),0,53)) else ((Zbm.f k l1_1).bind fun t387=>((Zbm.f k l0_1).bind fun t388=>((Zck.f k (mx (wrap64 ((wrap64 ((wrap64 (t387 - t388)) + 40)) + 2)) 0)).bind fun t389=>((Zdn.f k l0_1 t389).bind fun bt392=>((Zy.f bt392.1 bt392.2).bind fun t396=>((Zdm.f k t396 l1_1).bind fun bt399=>((Zcb.f k bt399.1 40).bind fun bt406=>((Zbi.f k bt406.1 bt406.2.1 bt406.2.2 (decide ((bt399.2.1.length:Int) > 0))).bind fun t413=>(if t413=true then ((Zc4.f k 1).bind fun t414=>((Ze8.f k bt406.1 t414).bind fun bt417=>((Zy.f bt417.1 bt417.2).bind fun t421=>((Zax.f k (a0_0 != a1_0) t421 (wrap64 ((wrap64 ((wrap64 (a0_2 - a1_2)) - (mx (wrap64 ((wrap64 ((wrap64 (t387 - t388)) + 40)) + 2)) 0))) + bt406.2.2))).bind fun bt424=>(some (bt424.1,bt424.2.1,bt424.2.2.1,bt424.2.2.2)))))) else ((Zax.f k (a0_0 != a1_0) bt406.1 (wrap64 ((wrap64 ((wrap64 (a0_2 - a1_2)) - (mx (wrap64 ((wrap64 ((wrap64 (t387 - t388)) + 40)) + 2)) 0))) + bt406.2.2))).bind fun bt430=>(some (bt430.1,bt430.2.1,bt430.2.2.1,bt430.2.2.2))))))))))))) else (some (false,([]:List Int),0,t386))))=some (r1,r2,r3,r4):=h
 clear h
 obtain ⟨y383,hy383⟩:∃ y_:List (S24),y_=(([(⟨a0_0,l0_1,a0_2⟩:S24),(⟨a1_0,l1_1,a1_2⟩:S24)]:List (S24))):=⟨_,rfl⟩
 replace H:((Zel.f k y383).bind fun t386=>(if t386=0 then (if (l1_1.length:Int)=0 then (some (false,([]:List Int),0,53)) else ((Zbm.f k l1_1).bind fun t387=>((Zbm.f k l0_1).bind fun t388=>((Zck.f k (mx (wrap64 ((wrap64 ((wrap64 (t387 - t388)) + 40)) + 2)) 0)).bind fun t389=>((Zdn.f k l0_1 t389).bind fun bt392=>((Zy.f bt392.1 bt392.2).bind fun t396=>((Zdm.f k t396 l1_1).bind fun bt399=>((Zcb.f k bt399.1 40).bind fun bt406=>((Zbi.f k bt406.1 bt406.2.1 bt406.2.2 (decide ((bt399.2.1.length:Int) > 0))).bind fun t413=>(if t413=true then ((Zc4.f k 1).bind fun t414=>((Ze8.f k bt406.1 t414).bind fun bt417=>((Zy.f bt417.1 bt417.2).bind fun t421=>((Zax.f k (a0_0 != a1_0) t421 (wrap64 ((wrap64 ((wrap64 (a0_2 - a1_2)) - (mx (wrap64 ((wrap64 ((wrap64 (t387 - t388)) + 40)) + 2)) 0))) + bt406.2.2))).bind fun bt424=>(some (bt424.1,bt424.2.1,bt424.2.2.1,bt424.2.2.2)))))) else ((Zax.f k (a0_0 != a1_0) bt406.1 (wrap64 ((wrap64 ((wrap64 (a0_2 - a1_2)) - (mx (wrap64 ((wrap64 ((wrap64 (t387 - t388)) + 40)) + 2)) 0))) + bt406.2.2))).bind fun bt430=>(some (bt430.1,bt430.2.1,bt430.2.2.1,bt430.2.2.2))))))))))))) else (some (false,([]:List Int),0,t386))))=some (r1,r2,r3,r4):=by have hy_:=hy383;exact pH
 have Ny383:=am hy383
 clear hy383
 obtain ⟨t386,A3,H⟩:=ob H
 by_cases c4:t386=0
 ·rw [if_pos c4] at H
  have c4b0:(t386 == 0)=true:=beq_iff_eq.mpr c4
  have c4b1:(t386 != 0)=false:=bne_eq_false_iff_eq.mpr c4
  clear c4
  by_cases c5:(l1_1.length:Int)=0
  ·rw [if_pos c5] at H
   have c5b0:((l1_1.length:Int) == 0)=true:=beq_iff_eq.mpr c5
   have c5b1:((l1_1.length:Int) != 0)=false:=bne_eq_false_iff_eq.mpr c5
   clear c5
   simp only [Option.some.injEq,Prod.mk.injEq] at H
   obtain ⟨rfl,rfl,rfl,rfl⟩:=H
   exact Zbq.leaf
  ·rw [if_neg c5] at H
   have c5b0:((l1_1.length:Int) == 0)=false:=beq_eq_false_iff_ne.mpr c5
   have c5b1:((l1_1.length:Int) != 0)=true:=bne_iff_ne.mpr c5
   have c5b2:¬ (l1_1=[]):=fun h_=>c5 (by rw [h_];rfl)
   obtain ⟨t387,A20,H⟩:=ob H
   obtain ⟨t388,A21,H⟩:=ob H
   obtain ⟨ji22,hji22⟩:∃ j_:Int,(mx (wrap64 ((wrap64 ((wrap64 (t387 - t388)) + 40)) + 2)) 0)=j_:=⟨_,rfl⟩
   replace H:((Zck.f k (ji22)).bind fun t389=>((Zdn.f k l0_1 t389).bind fun bt392=>((Zy.f bt392.1 bt392.2).bind fun t396=>((Zdm.f k t396 l1_1).bind fun bt399=>((Zcb.f k bt399.1 40).bind fun bt406=>((Zbi.f k bt406.1 bt406.2.1 bt406.2.2 (decide ((bt399.2.1.length:Int) > 0))).bind fun t413=>(if t413=true then ((Zc4.f k 1).bind fun t414=>((Ze8.f k bt406.1 t414).bind fun bt417=>((Zy.f bt417.1 bt417.2).bind fun t421=>((Zax.f k (a0_0 != a1_0) t421 (wrap64 ((wrap64 ((wrap64 (a0_2 - a1_2)) - (ji22))) + bt406.2.2))).bind fun bt424=>(some (bt424.1,bt424.2.1,bt424.2.2.1,bt424.2.2.2)))))) else ((Zax.f k (a0_0 != a1_0) bt406.1 (wrap64 ((wrap64 ((wrap64 (a0_2 - a1_2)) - (ji22))) + bt406.2.2))).bind fun bt430=>(some (bt430.1,bt430.2.1,bt430.2.2.1,bt430.2.2.2))))))))))=some (r1,r2,r3,r4):=by first|(rw [hji22] at H;exact H)|(simp only [hji22] at H ⊢;exact H)
   (try rw [hji22] at A3)
   (try rw [hji22] at A20)
   (try rw [hji22] at A21)
   (try (have hji22l:0<=ji22:=by (rw [<- hji22];unfold mx;(repeat' split) <;> omega)))
   (try (have hji22m:0<=ji22:=by omega))
   have hji22_:(if (wrap64 ((wrap64 ((wrap64 (t387 - t388)) + 40)) + 2)) < 0 then 0 else (wrap64 ((wrap64 ((wrap64 (t387 - t388)) + 40)) + 2)))=ji22:=hji22
   obtain ⟨t389,A23,H⟩:=ob H
   obtain ⟨⟨t392,t393⟩,A24,H⟩:=ob H;(try dsimp only at H)
   obtain ⟨t396,A25,H⟩:=ob H
   replace H:=Option.bind_eq_some_iff.mp H
   obtain ⟨⟨t399,t400,t401⟩,A260,H⟩:=H
   replace H:((Zcb.f k t399 40).bind fun bt406=>((Zbi.f k bt406.1 bt406.2.1 bt406.2.2 (decide (0 < t400.length))).bind fun t413=>(if t413=true then ((Zc4.f k 1).bind fun t414=>((Ze8.f k bt406.1 t414).bind fun bt417=>((Zy.f bt417.1 bt417.2).bind fun t421=>((Zax.f k (a0_0 != a1_0) t421 (wrap64 ((wrap64 ((wrap64 (a0_2 - a1_2)) - (ji22))) + bt406.2.2))).bind fun bt424=>(some (bt424.1,bt424.2.1,bt424.2.2.1,bt424.2.2.2)))))) else ((Zax.f k (a0_0 != a1_0) bt406.1 (wrap64 ((wrap64 ((wrap64 (a0_2 - a1_2)) - (ji22))) + bt406.2.2))).bind fun bt430=>(some (bt430.1,bt430.2.1,bt430.2.2.1,bt430.2.2.2))))))=some (r1,r2,r3,r4):=by rw [show decide (0 < t400.length)=decide ((t400.length:Int) > 0) by simp];exact H
   have A26:=am A260
   clear A260
   obtain ⟨⟨t406,t407,t408⟩,A27,H⟩:=ob H;(try dsimp only at H)
   obtain ⟨t413,A28,H⟩:=ob H
   by_cases c29:t413=true
   ·subst c29
    rw [if_pos rfl] at H
    obtain ⟨t414,A30,H⟩:=ob H
    obtain ⟨⟨t417,t418⟩,A31,H⟩:=ob H;(try dsimp only at H)
    obtain ⟨t421,A32,H⟩:=ob H
    obtain ⟨⟨t424,t425,t428,t429⟩,A33,H⟩:=ob H;(try dsimp only at H)
    simp only [Option.some.injEq,Prod.mk.injEq] at H
    obtain ⟨rfl,rfl,rfl,rfl⟩:=H
    exact Zbq.leaf
   ·replace c29:=Bool.eq_false_iff.mpr c29
    subst c29
    rw [if_neg (show ¬ (false=true) by decide)] at H
    obtain ⟨⟨t430,t431,t434,t435⟩,A75,H⟩:=ob H;(try dsimp only at H)
    simp only [Option.some.injEq,Prod.mk.injEq] at H
    obtain ⟨rfl,rfl,rfl,rfl⟩:=H
    exact Zbq.leaf
 ·rw [if_neg c4] at H
  have c4b0:(t386 == 0)=false:=beq_eq_false_iff_ne.mpr c4
  have c4b1:(t386 != 0)=true:=bne_iff_ne.mpr c4
  simp only [Option.some.injEq,Prod.mk.injEq] at H
  obtain ⟨rfl,rfl,rfl,rfl⟩:=H
  exact Zbq.leaf
def Zbg.f (k:Nat) (a0_0:Bool) (l0_1:List Int) (a0_2:Int):Option (Bool × List Int × Int × Int):=(Zbn.f k a0_0 l0_1 a0_2).bind fun t461=>(if t461=0 then (if a0_0=true then (some (false,([]:List Int),0,4)) else ((Zbm.f k l0_1).bind fun t462=>((Zck.f k (wrap64 ((mx (wrap64 (80 - t462)) 0) + (Go.bits .and .i64 (wrap64 (a0_2 - (mx (wrap64 (80 - t462)) 0))) 1)))).bind fun t463=>((Zdn.f k l0_1 t463).bind fun bt466=>((Zy.f bt466.1 bt466.2).bind fun t470=>((Zej.f k t470).bind fun bt473=>((Zy.f bt473.1 bt473.2).bind fun t477=>((Zcb.f k t477 40).bind fun bt480=>((Zax.f k false bt480.1 (wrap64 ((wrap64 (Int.tdiv (wrap64 (a0_2 - (wrap64 ((mx (wrap64 (80 - t462)) 0) + (Go.bits .and .i64 (wrap64 (a0_2 - (mx (wrap64 (80 - t462)) 0))) 1))))) 2)) + bt480.2.2))).bind fun bt487=>(some (bt487.1,bt487.2.1,bt487.2.2.1,bt487.2.2.2))))))))))) else (some (false,([]:List Int),0,t461)))
def Zbg.T8:Bool × List (List Nat × List Nat):=(true,[([],[]),([0],[0]),([],[]),([2],[2]),([1,3,3],[1,3]),([4],[4]),([4],[4]),([5,6,4],[5,6]),([7,7],[7]),([8],[8]),([8],[8]),([9,10,8],[9,10]),([11,11,0,1,2,3,4,5,6,7,8,9,10,11],[11])])
def Zbg.B8:List Nat:=[0,1,0,4,15,31,31,127,255,511,511,2047,4095]
theorem Zbg.tab8:rtab .any (opsOf Tryz.f26 8)=Zbg.T8:=by kernel_rfl
theorem Zbg.bits8:waitsOk Zbg.T8.2 Zbg.B8=true:=by kernel_rfl
theorem Zbg.leaf {P:Prop} (h:P:=by
 go_enter Tryz.func26,Tryz.ntmps26
 try go_wp2_with (first|((with_reducible refine gd 1 ?_);refine bx 1 #[.bool false,.slice A0_1 l0_1.length c0_1,.int .i64 a0_2] 24 (h:=?_);intro gb0z hg w1z hbox hb;have BK2z:=am hbox;have GW3z:=gW hg;have GE4z:=gW hg;replace HB:=bS hb;clear hb hbox hg)|((with_reducible refine gd 2 ?_);refine bx 2 #[.bool false,.slice none 0 0,.int .i64 0] 24 (h:=?_);intro gb5z hg w6z hbox hb;have BK7z:=am hbox;have GW8z:=gW hg;have GE9z:=gW hg;have NB10z:=nL hg BK2z;have NB11z:=nG hg BK2z;replace BK2z:=bb BK2z hb;replace HB:=bS hb;clear hb hbox hg;have hnb12z:=NB10z.out;have hnc13z:=NB11z.out;obtain ⟨hcz14z,hcz15z,hcz16z,hfz17z,hfz18z,hfz19z⟩:=cEc BK2z.out)|(refine gL (some 11) Tryz.func55 #[.agg #[.bool false,.slice A0_1 l0_1.length c0_1,.int .i64 a0_2]] (h:=?_);(with_reducible refine (Zbn.calls k false _ _ l0_1 a0_2 t461 _ ?side1 ?side2 A2.out).mono ?_);(case side1=>refine cp ?_;exact (Kd.Zh HR0_1.out HB.out));(case side2=>exact HC0_1.out);rintro e w20z ⟨rfl,hb⟩;refine ⟨_,rfl,?_⟩;replace BK2z:=bb BK2z hb;replace BK7z:=bb BK7z hb;replace HB:=bS hb;obtain ⟨hcz21z,hcz22z,hcz23z,hfz24z,hfz25z,hfz26z⟩:=cEc BK2z.out)|(refine gL (some 21) Tryz.func68 #[.slice A0_1 l0_1.length c0_1] (h:=?_);(with_reducible refine (Zbm.calls k _ _ l0_1 t462 _ ?side1 ?side2 A12.out).mono ?_);(case side1=>refine cp ?_;exact (Kd.Zh HR0_1.out HB.out));(case side2=>exact HC0_1.out);rintro e w27z ⟨rfl,hb⟩;refine ⟨_,rfl,?_⟩;replace BK2z:=bb BK2z hb;replace BK7z:=bb BK7z hb;replace HB:=bS hb;obtain ⟨hcz28z,hcz29z,hcz30z,hfz31z,hfz32z,hfz33z⟩:=cEc BK2z.out)|((with_reducible refine gd 1 ?_);refine bx 1 #[.bool true,.slice A0_1 l0_1.length c0_1,.int .i64 a0_2] 24 (h:=?_);intro gb0z hg w1z hbox hb;have BK2z:=am hbox;have GW3z:=gW hg;have GE4z:=gW hg;replace HB:=bS hb;clear hb hbox hg)|(refine gL (some 11) Tryz.func55 #[.agg #[.bool true,.slice A0_1 l0_1.length c0_1,.int .i64 a0_2]] (h:=?_);(with_reducible refine (Zbn.calls k true _ _ l0_1 a0_2 t461 _ ?side1 ?side2 A2.out).mono ?_);(case side1=>refine cp ?_;exact (Kd.Zh HR0_1.out HB.out));(case side2=>exact HC0_1.out);rintro e w20z ⟨rfl,hb⟩;refine ⟨_,rfl,?_⟩;replace BK2z:=bb BK2z hb;replace BK7z:=bb BK7z hb;replace HB:=bS hb;obtain ⟨hcz21z,hcz22z,hcz23z,hfz24z,hfz25z,hfz26z⟩:=cEc BK2z.out;obtain ⟨hcz27z,hcz28z,hcz29z,hfz30z,hfz31z,hfz32z⟩:=cEc BK7z.out)|((with_reducible refine gd 1 ?_);refine bx 1 #[.bool a0_0,.slice A0_1 l0_1.length c0_1,.int .i64 a0_2] 24 (h:=?_);intro gb0z hg w1z hbox hb;have BK2z:=am hbox;have GW3z:=gW hg;have GE4z:=gW hg;replace HB:=bS hb;clear hb hbox hg)|(refine gL (some 11) Tryz.func55 #[.agg #[.bool a0_0,.slice A0_1 l0_1.length c0_1,.int .i64 a0_2]] (h:=?_);(with_reducible refine (Zbn.calls k a0_0 _ _ l0_1 a0_2 t461 _ ?side1 ?side2 A2.out).mono ?_);(case side1=>refine cp ?_;exact (Kd.Zh HR0_1.out HB.out));(case side2=>exact HC0_1.out);rintro e w20z ⟨rfl,hb⟩;refine ⟨_,rfl,?_⟩;replace BK2z:=bb BK2z hb;replace BK7z:=bb BK7z hb;replace HB:=bS hb;obtain ⟨hcz21z,hcz22z,hcz23z,hfz24z,hfz25z,hfz26z⟩:=cEc BK7z.out))
 first
  | have q_:=A20
    replace BK2z:=am (Zba BK2z.out)
    replace BK7z:=am (Zba BK7z.out)
    replace HB:=am (Zaz HB.out)
    refine start_ (n:=13) (S:=fun w'=>w'.cell? ⟨gb0z,0,none⟩=some (.bool false)/\w'.cell? ⟨gb0z,1,none⟩=some (.slice A0_1 l0_1.length c0_1)/\w'.cell? ⟨gb0z,2,none⟩=some (.int .i64 a0_2)) (ds:=[]) #[false,false,false,false,false,false,false,false,false,false,false,false,false] (by kernel_rfl) rfl rfl ⟨k0 BK2z 0,k0 BK2z 1,k0 BK2z 2⟩ (fun hHeld=>?_);refine Zcn Zbg.tab8 Zbg.bits8 (fun HT_ HW_=>?_)
    generalize w27z.drew=w34z at BK2z BK7z HB hHeld ⊢
    refine pu 0 (some 31) #[true,false,false,false,false,false,false,false,false,false,false,false,false] (h:=?_)
    refine pu 2 (some 33) #[true,false,true,false,false,false,false,false,false,false,false,false,false] (h:=?_)
    refine take_ (i:=1) (N:=some 32) (v:=?_) (a':=?_) #[true,true,true,false,false,false,false,false,false,false,false,false,false] rfl rfl (Zbh HT_.out HW_.out (by kernel_rfl)) (fun _ _ _ h=>h) (Or.inl ⟨by rfl,?_⟩) hHeld ?_ ?_
    rotate_left
    ·rintro w' ⟨s35z,s36z,s37z⟩
     go_simp
     with_reducible rfl
    rotate_left
    ·exact pP
    refine one_ (i:=3) (N:=some 34) #[true,true,true,true,false,false,false,false,false,false,false,false,false] rfl rfl (Zbx HT_.out (by kernel_rfl)) (by decide) (fun K hK=>?_)
    refine goes_ Tryz.func72 (by kernel_rfl) rfl #[.int .i64 (wrap64 ((ji13) + (Go.bits .and .i64 (wrap64 (a0_2 - (ji13))) 1)))] (by rfl) rfl rfl (by (try simp only [List.map_toArray,List.map_cons,List.map_nil]);first|done|(simp only [hji13];rfl)|rfl|(simp only [List.length_drop,List.length_take];rfl)) ?_
    with_reducible refine (Zck.calls k (wrap64 ((ji13) + (Go.bits .and .i64 (wrap64 (a0_2 - (ji13))) 1))) t463 _ A14.out).mono ?_
    rintro e w38z ⟨v39z,rfl,ho40z,hb⟩
    refine ⟨_,rfl,?_⟩
    have HO41z:=am (Kd.Zq ho40z (Zb pB))
    replace BK2z:=bb BK2z hb
    replace BK7z:=bb BK7z hb
    replace HB:=bS hb
    obtain ⟨Ao42z,co43z,eo44z⟩:=Kd.Zm HO41z.out
    (first|subst eo44z|(injection eo44z with f1_ f2_ f3_;have f4_:=f1_.symm;have f5_:=f3_.symm;clear f1_ f2_ f3_;subst f4_;subst f5_))
    refine hK.out _ _ ⟨k0 BK2z 0,k0 BK2z 1,k0 BK2z 2⟩ (fun hHeld=>?_)
    clear hK K
    refine norm_ (a':=?_) ?_ ?_
    rotate_left
    ·show Act.put _ (some 34) _=_
     exact pP
    refine one_ (i:=4) (N:=some 35) #[true,true,true,true,true,false,false,false,false,false,false,false,false] rfl rfl (Zbx HT_.out (by kernel_rfl)) (by decide) (fun K hK=>?_)
    refine goes_ Tryz.func71 (by kernel_rfl) rfl #[.slice A0_1 l0_1.length c0_1,.slice Ao42z t463.length co43z] (by rfl) rfl rfl pA ?_
    with_reducible refine (Zdn.calls k _ _ l0_1 _ _ t463 t466 t467 _ ?side1 ?side2 ?side3 ?side4 A15.out).mono ?_
    (case side1=>refine cp ?_;exact (Kd.Zh HR0_1.out HB.out))
    (case side2=>exact HC0_1.out)
    (case side3=>exact Kd.Zh (Kd.Zd HO41z.out).2.2 pl)
    (case side4=>exact (Kd.Zd HO41z.out).2.1)
    rintro e w45z ⟨v46z,rfl,ho40z,hb⟩
    refine ⟨_,rfl,?_⟩
    have HO47z:=am (Kd.Zq (Kd.Zv ho40z (Kd.R_lt (Kd.Za HO41z.out pl))) (Zb pB))
    replace HO41z:=reR HO41z ho40z hb
    replace BK2z:=bb BK2z hb
    replace BK7z:=bb BK7z hb
    replace HB:=bS hb
    obtain ⟨Ao48z,co49z,eo50z⟩:=Kd.Zm HO47z.out
    (first|subst eo50z|(injection eo50z with f1_ f2_ f3_;have f4_:=f1_.symm;have f5_:=f3_.symm;clear f1_ f2_ f3_;subst f4_;subst f5_))
    refine hK.out _ _ ⟨k0 BK2z 0,k0 BK2z 1,k0 BK2z 2⟩ (fun hHeld=>?_)
    clear hK K
    refine norm_ (a':=?_) ?_ ?_
    rotate_left
    ·show Act.put _ (some 35) _=_
     exact pP
    refine pu 5 (some 36) #[true,true,true,true,true,true,false,false,false,false,false,false,false] (h:=?_)
    refine pu 6 (some 37) #[true,true,true,true,true,true,true,false,false,false,false,false,false] (h:=?_)
    refine one_ (i:=7) (N:=some 38) #[true,true,true,true,true,true,true,true,false,false,false,false,false] rfl rfl (Zbx HT_.out (by kernel_rfl)) (by decide) (fun K hK=>?_)
    refine goes_ Tryz.func70 (by kernel_rfl) rfl #[.slice Ao48z t466.length co49z,.int .i64 t467] (by rfl) rfl rfl pA ?_
    with_reducible refine (Zy.calls (fun k_=>some k_=(.slice Ao48z t466.length co49z:Value).ownBlock) (.slice Ao48z t466.length co49z) t466 t467 t470 w _ ?side1 ?side2 A16.out).mono ?_
    (case side1=>exact pB)
    (case side2=>exact Kd.Zbr rfl HO47z.out)
    rintro e w51z ⟨v52z,rfl,ho40z,hb,hkp⟩
    refine ⟨_,rfl,?_⟩
    have HO53z:=am (Kd.Zi (ok':=fun k_=>some k_ ≠ (.slice Ao42z t463.length co43z:Value).ownBlock) ho40z (fun k_ hk_=>Or.elim hk_ (fun hs_=>fun e_=>(((HO41z.out).1 k_ e_.symm).2) hs_) (fun hn_=>(Kd.fresh' (Kd.R_lt (Kd.Za HO41z.out pl)) k_ hn_))))
    replace BK2z:=am (Za2 (Zc BK2z.out pl) hkp (fun e_=>Kd.R_ne HO47z.out BK2z.out (by decide) e_))
    replace BK7z:=am (Za2 (Zc BK7z.out pl) hkp (fun e_=>Kd.R_ne HO47z.out BK7z.out (by decide) e_))
    replace HO41z:=am (Kd.Zi (ok':=fun k_=>some k_ ≠ (v52z:Value).ownBlock) (Kd.Zcl (HO41z.out) hkp (fun k_ hk_ hs_=>(hk_.2) hs_)) (fun k_ hk_=>fun e_=>Or.elim (ho40z.1 k_ e_.symm) (fun hs_=>hk_.2.1 hs_) (fun hn_=>Nat.not_le.2 hk_.2.2 hn_)))
    replace HB:=am hb
    clear HO47z
    obtain ⟨Ao54z,co55z,eo56z⟩:=Kd.Zm HO53z.out
    (first|subst eo56z|(injection eo56z with f1_ f2_ f3_;have f4_:=f1_.symm;have f5_:=f3_.symm;clear f1_ f2_ f3_;subst f4_;subst f5_))
    refine hK.out _ _ ⟨k0 BK2z 0,k0 BK2z 1,k0 BK2z 2⟩ (fun hHeld=>?_)
    clear hK K
    refine norm_ (a':=?_) ?_ ?_
    rotate_left
    ·show Act.put _ (some 38) _=_
     exact pP
    refine one_ (i:=8) (N:=some 39) #[true,true,true,true,true,true,true,true,true,false,false,false,false] rfl rfl (Zbx HT_.out (by kernel_rfl)) (by decide) (fun K hK=>?_)
    refine goes_ Tryz.func82 (by kernel_rfl) rfl #[.slice Ao54z t470.length co55z] (by rfl) rfl rfl pA ?_
    with_reducible refine (Zej.calls k _ _ t470 t473 t474 _ ?side1 ?side2 A17.out).mono ?_
    (case side1=>exact Kd.Zh (Kd.Zd HO53z.out).2.2 pl)
    (case side2=>exact (Kd.Zd HO53z.out).2.1)
    rintro e w57z ⟨v58z,rfl,ho40z,hb⟩
    refine ⟨_,rfl,?_⟩
    have HO59z:=am (Kd.Zq (Kd.Zv (Kd.Zv ho40z (Kd.R_lt (Kd.Za HO41z.out pl))) (Kd.R_lt (Kd.Za HO53z.out pl))) (Zb pB))
    replace HO41z:=reR HO41z ho40z hb
    replace HO53z:=reR HO53z ho40z hb
    replace BK2z:=bb BK2z hb
    replace BK7z:=bb BK7z hb
    replace HB:=bS hb
    obtain ⟨Ao60z,co61z,eo62z⟩:=Kd.Zm HO59z.out
    (first|subst eo62z|(injection eo62z with f1_ f2_ f3_;have f4_:=f1_.symm;have f5_:=f3_.symm;clear f1_ f2_ f3_;subst f4_;subst f5_))
    refine hK.out _ _ ⟨k0 BK2z 0,k0 BK2z 1,k0 BK2z 2⟩ (fun hHeld=>?_)
    clear hK K
    refine norm_ (a':=?_) ?_ ?_
    rotate_left
    ·show Act.put _ (some 39) _=_
     exact pP
    refine pu 9 (some 40) #[true,true,true,true,true,true,true,true,true,true,false,false,false] (h:=?_)
    refine pu 10 (some 41) #[true,true,true,true,true,true,true,true,true,true,true,false,false] (h:=?_)
    refine one_ (i:=11) (N:=some 42) #[true,true,true,true,true,true,true,true,true,true,true,true,false] rfl rfl (Zbx HT_.out (by kernel_rfl)) (by decide) (fun K hK=>?_)
    refine goes_ Tryz.func70 (by kernel_rfl) rfl #[.slice Ao60z t473.length co61z,.int .i64 t474] (by rfl) rfl rfl pA ?_
    with_reducible refine (Zy.calls (fun k_=>some k_=(.slice Ao60z t473.length co61z:Value).ownBlock) (.slice Ao60z t473.length co61z) t473 t474 t477 w _ ?side1 ?side2 A18.out).mono ?_
    (case side1=>exact pB)
    (case side2=>exact Kd.Zbr rfl HO59z.out)
    rintro e w63z ⟨v64z,rfl,ho40z,hb,hkp⟩
    refine ⟨_,rfl,?_⟩
    have HO65z:=am (Kd.Zi (ok':=fun k_=>some k_ ≠ (.slice Ao42z t463.length co43z:Value).ownBlock/\some k_ ≠ (.slice Ao54z t470.length co55z:Value).ownBlock) ho40z (fun k_ hk_=>⟨Or.elim hk_ (fun hs_=>fun e_=>(((HO41z.out).1 k_ e_.symm).2) hs_) (fun hn_=>(Kd.fresh' (Kd.R_lt (Kd.Za HO41z.out pl)) k_ hn_)),Or.elim hk_ (fun hs_=>fun e_=>(((HO53z.out).1 k_ e_.symm).2) hs_) (fun hn_=>(Kd.fresh' (Kd.R_lt (Kd.Za HO53z.out pl)) k_ hn_))⟩))
    replace BK2z:=am (Za2 (Zc BK2z.out pl) hkp (fun e_=>Kd.R_ne HO59z.out BK2z.out (by decide) e_))
    replace BK7z:=am (Za2 (Zc BK7z.out pl) hkp (fun e_=>Kd.R_ne HO59z.out BK7z.out (by decide) e_))
    replace HO41z:=am (Kd.Zi (ok':=fun k_=>some k_ ≠ (.slice Ao54z t470.length co55z:Value).ownBlock/\some k_ ≠ (v64z:Value).ownBlock) (Kd.Zcl (HO41z.out) hkp (fun k_ hk_ hs_=>(hk_.2) hs_)) (fun k_ hk_=>⟨hk_.1.1,fun e_=>Or.elim (ho40z.1 k_ e_.symm) (fun hs_=>hk_.2.1 hs_) (fun hn_=>Nat.not_le.2 hk_.2.2 hn_)⟩))
    replace HO53z:=am (Kd.Zi (ok':=fun k_=>some k_ ≠ (.slice Ao42z t463.length co43z:Value).ownBlock/\some k_ ≠ (v64z:Value).ownBlock) (Kd.Zcl (HO53z.out) hkp (fun k_ hk_ hs_=>(hk_.2) hs_)) (fun k_ hk_=>⟨hk_.1.1,fun e_=>Or.elim (ho40z.1 k_ e_.symm) (fun hs_=>hk_.2.1 hs_) (fun hn_=>Nat.not_le.2 hk_.2.2 hn_)⟩))
    replace HB:=am hb
    clear HO59z
    refine hK.out _ _ ⟨k0 BK2z 0,k0 BK2z 1,k0 BK2z 2⟩ (fun hHeld=>?_)
    clear hK K
    refine norm_ (a':=?_) ?_ ?_
    rotate_left
    ·show Act.put _ (some 42) _=_
     exact pP
    refine pu 12 (some 6) #[true,true,true,true,true,true,true,true,true,true,true,true,true] (h:=?_)
    refine done_ (Zdl HT_.out (by kernel_rfl)) ?_
    obtain ⟨Ao66z,co67z,eo68z⟩:=Kd.Zm HO65z.out
    subst eo68z
    try go_wp2_with (first|(refine gL (some 45) Tryz.func73 #[.slice Ao66z t477.length co67z,.int .i64 40] (h:=?_);(with_reducible refine (Zcb.calls k _ _ t477 40 t480 t481 t482 _ ?side1 ?side2 A19.out).mono ?_);(case side1=>exact Kd.Zh (Kd.Zd HO65z.out).2.2 pl);(case side2=>exact (Kd.Zd HO65z.out).2.1);rintro e w69z ⟨v70z,v71z,rfl,ho40z,ho72z,hb⟩;refine ⟨_,rfl,?_⟩;have HO73z:=am (Kd.Zq (Kd.Zv (Kd.Zv (Kd.Zv ho40z (Kd.R_lt (Kd.Za HO41z.out pl))) (Kd.R_lt (Kd.Za HO53z.out pl))) (Kd.R_lt (Kd.Za HO65z.out pl))) (Zb pB));have HO74z:=am (Kd.Zq (Kd.Zv (Kd.Zv (Kd.Zv ho72z (Kd.R_lt (Kd.Za HO41z.out pl))) (Kd.R_lt (Kd.Za HO53z.out pl))) (Kd.R_lt (Kd.Za HO65z.out pl))) (Zb pB));replace HO41z:=am (Kd.Zi (Kd.Zc7 (Kd.Zc7 (Kd.Zgh (Kd.Za HO41z.out pl) hb) (Kd.Zat ho40z)) (Kd.Zat ho72z)) (fun _ h_=>h_.1));replace HO53z:=am (Kd.Zi (Kd.Zc7 (Kd.Zc7 (Kd.Zgh (Kd.Za HO53z.out pl) hb) (Kd.Zat ho40z)) (Kd.Zat ho72z)) (fun _ h_=>h_.1));replace HO65z:=am (Kd.Zi (Kd.Zc7 (Kd.Zc7 (Kd.Zgh (Kd.Za HO65z.out pl) hb) (Kd.Zat ho40z)) (Kd.Zat ho72z)) (fun _ h_=>h_.1));replace BK2z:=bb BK2z hb;replace BK7z:=bb BK7z hb;replace HB:=bS hb;obtain ⟨hcz75z,hcz76z,hcz77z,hfz78z,hfz79z,hfz80z⟩:=cEc BK2z.out;obtain ⟨Ao81z,co82z,eo83z⟩:=Kd.Zm HO73z.out;subst eo83z)|((with_reducible refine Zdw (f:=60) rfl ?_);refine goesL_ (some 57) rfl rfl Tryz.func60 (by kernel_rfl) rfl #[.bool false,.slice Ao81z t480.length co82z,.int .i64 (wrap64 ((wrap64 (Int.tdiv (wrap64 (a0_2 - (wrap64 ((ji13) + (Go.bits .and .i64 (wrap64 (a0_2 - (ji13))) 1))))) 2)) + t482))] rfl (by (try simp only [List.map_toArray,List.map_cons,List.map_nil]);first|done|(simp only [hji13];rfl)|rfl|(simp only [List.length_drop,List.length_take];rfl)) ?_;(with_reducible refine (Zax.calls k false _ _ t480 (wrap64 ((wrap64 (Int.tdiv (wrap64 (a0_2 - (wrap64 ((ji13) + (Go.bits .and .i64 (wrap64 (a0_2 - (ji13))) 1))))) 2)) + t482)) t487 t488 t491 t492 _ ?side1 ?side2 A20.out).mono ?_);(case side1=>exact Kd.Zh (Kd.Zd HO73z.out).2.2 pl);(case side2=>exact (Kd.Zd HO73z.out).2.1);rintro e w84z ⟨v85z,rfl,ho40z,hb⟩;refine ⟨_,rfl,?_⟩;have HO86z:=am (Kd.Zq (Kd.Zv (Kd.Zv (Kd.Zv (Kd.Zv (Kd.Zv ho40z (Kd.R_lt (Kd.Za HO41z.out pl))) (Kd.R_lt (Kd.Za HO53z.out pl))) (Kd.R_lt (Kd.Za HO65z.out pl))) (Kd.R_lt (Kd.Za HO73z.out pl))) (Kd.R_lt (Kd.Za HO74z.out pl))) (Zb pB));replace HO41z:=reR HO41z ho40z hb;replace HO53z:=reR HO53z ho40z hb;replace HO65z:=reR HO65z ho40z hb;replace HO73z:=reR HO73z ho40z hb;replace HO74z:=reR HO74z ho40z hb;replace BK2z:=bb BK2z hb;replace BK7z:=bb BK7z hb;replace HB:=bS hb;obtain ⟨hcz87z,hcz88z,hcz89z,hfz90z,hfz91z,hfz92z⟩:=cEc BK7z.out;obtain ⟨Ao93z,co94z,eo95z⟩:=Kd.Zm HO86z.out;subst eo95z))
    refine bodyPost_ret (Za8 rfl _ _ gb5z 24 #[.bool t487,.slice Ao93z t488.length co94z,.int .i64 t491] (0,0) _ rfl (by exact p3 BK7z) Tryz.underlying24 rfl (by kernel_rfl)) rfl ?_
    exact ⟨_,by first|rfl|(simp [Zal,Zam] <;> rfl)|(simp only [<- hji13];first|rfl|(simp [Zal,Zam] <;> rfl))|(simp [*,Zal,Zam] <;> rfl),by refine rp ?_;exact Kd.Zi (Kd.Zn (p:=⟨gb5z,2,none⟩) (Kd.Zn (p:=⟨gb5z,1,none⟩) (Kd.Zn (p:=⟨gb5z,0,none⟩) (Kd.Zu HO86z.out BK7z.out (by decide)) (fun _ hk=>hk.2) (.bool t487)) (fun _ hk=>hk.2) (.slice Ao93z t488.length co94z)) (fun _ hk=>hk.2) (.int .i64 t491)) (fun _ hk=>trivial),pB⟩
  | refine bodyPost_ret (Za8 rfl _ _ gb5z 24 #[.bool false,.slice none 0 0,.int .i64 0] (0,0) _ rfl (by exact p3 BK7z) Tryz.underlying24 rfl (by kernel_rfl)) rfl ?_
    exact ⟨_,pE,pN,pB⟩):P:=h
theorem Zbg.calls (k:Nat) (a0_0:Bool) (A0_1:Option Addr) (c0_1:Nat) (l0_1:List Int) (a0_2:Int) (r1:Bool) (r2:List Int) (r3:Int) (r4:Int) (w:World) (hr0_1:Kd.C (Kd.int .u32) w A0_1 l0_1.length l0_1) (hc0_1:l0_1.length<=c0_1) (h:Zbg.f k a0_0 l0_1 a0_2=some (r1,r2,r3,r4)) :
  Calls Tryz.prog 26 #[.agg #[.bool a0_0,.slice A0_1 l0_1.length c0_1,.int .i64 a0_2]] w fun e w' => ∃ v1_:Value,e=.returned (.tuple #[.agg #[.bool r1,v1_,.int .i64 r3],.int .i64 r4])/\Kd.R (Kd.int .u32) 85 w' w.heap.size (fun _=>True) v1_ r2/\Below w.heap.size w w':=by
 have hu24:=Tryz.underlying24
 have HR0_1:=am hr0_1
 have HC0_1:=am hc0_1
 clear hr0_1 hc0_1
 have HB:=am (Below.refl w.heap.size w)
 have H:((Zbn.f k a0_0 l0_1 a0_2).bind fun t461=>(if t461=0 then (if a0_0=true then (some (false,([]:List Int),0,4)) else ((Zbm.f k l0_1).bind fun t462=>((Zck.f k (wrap64 ((mx (wrap64 (80 - t462)) 0) + (Go.bits .and .i64 (wrap64 (a0_2 - (mx (wrap64 (80 - t462)) 0))) 1)))).bind fun t463=>((Zdn.f k l0_1 t463).bind fun bt466=>((Zy.f bt466.1 bt466.2).bind fun t470=>((Zej.f k t470).bind fun bt473=>((Zy.f bt473.1 bt473.2).bind fun t477=>((Zcb.f k t477 40).bind fun bt480=>((Zax.f k false bt480.1 (wrap64 ((wrap64 (Int.tdiv (wrap64 (a0_2 - (wrap64 ((mx (wrap64 (80 - t462)) 0) + (Go.bits .and .i64 (wrap64 (a0_2 - (mx (wrap64 (80 - t462)) 0))) 1))))) 2)) + bt480.2.2))).bind fun bt487=>(some (bt487.1,bt487.2.1,bt487.2.2.1,bt487.2.2.2))))))))))) else (some (false,([]:List Int),0,t461))))=some (r1,r2,r3,r4):=h
 clear h
 obtain ⟨t461,A2,H⟩:=ob H
 by_cases c3:t461=0
 ·rw [if_pos c3] at H
  have c3b0:(t461 == 0)=true:=beq_iff_eq.mpr c3
  have c3b1:(t461 != 0)=false:=bne_eq_false_iff_eq.mpr c3
  clear c3
  by_cases c4:a0_0=true
  ·subst c4
   rw [if_pos rfl] at H
   simp only [Option.some.injEq,Prod.mk.injEq] at H
   obtain ⟨rfl,rfl,rfl,rfl⟩:=H
   exact Zbg.leaf
  ·replace c4:=Bool.eq_false_iff.mpr c4
   subst c4
   rw [if_neg (show ¬ (false=true) by decide)] at H
   obtain ⟨t462,A12,H⟩:=ob H
   obtain ⟨ji13,hji13⟩:∃ j_:Int,(mx (wrap64 (80 - t462)) 0)=j_:=⟨_,rfl⟩
   replace H:((Zck.f k (wrap64 ((ji13) + (Go.bits .and .i64 (wrap64 (a0_2 - (ji13))) 1)))).bind fun t463=>((Zdn.f k l0_1 t463).bind fun bt466=>((Zy.f bt466.1 bt466.2).bind fun t470=>((Zej.f k t470).bind fun bt473=>((Zy.f bt473.1 bt473.2).bind fun t477=>((Zcb.f k t477 40).bind fun bt480=>((Zax.f k false bt480.1 (wrap64 ((wrap64 (Int.tdiv (wrap64 (a0_2 - (wrap64 ((ji13) + (Go.bits .and .i64 (wrap64 (a0_2 - (ji13))) 1))))) 2)) + bt480.2.2))).bind fun bt487=>(some (bt487.1,bt487.2.1,bt487.2.2.1,bt487.2.2.2)))))))))=some (r1,r2,r3,r4):=by first|(rw [hji13] at H;exact H)|(simp only [hji13] at H ⊢;exact H)
   (try rw [hji13] at A2)
   (try rw [hji13] at A12)
   (try (have hji13l:0<=ji13:=by (rw [<- hji13];unfold mx;(repeat' split) <;> omega)))
   (try (have hji13m:0<=ji13:=by omega))
   have hji13_:(if (wrap64 (80 - t462)) < 0 then 0 else (wrap64 (80 - t462)))=ji13:=hji13
   obtain ⟨t463,A14,H⟩:=ob H
   obtain ⟨⟨t466,t467⟩,A15,H⟩:=ob H;(try dsimp only at H)
   obtain ⟨t470,A16,H⟩:=ob H
   obtain ⟨⟨t473,t474⟩,A17,H⟩:=ob H;(try dsimp only at H)
   obtain ⟨t477,A18,H⟩:=ob H
   obtain ⟨⟨t480,t481,t482⟩,A19,H⟩:=ob H;(try dsimp only at H)
   obtain ⟨⟨t487,t488,t491,t492⟩,A20,H⟩:=ob H;(try dsimp only at H)
   simp only [Option.some.injEq,Prod.mk.injEq] at H
   obtain ⟨rfl,rfl,rfl,rfl⟩:=H
   exact Zbg.leaf
 ·rw [if_neg c3] at H
  have c3b0:(t461 == 0)=false:=beq_eq_false_iff_ne.mpr c3
  have c3b1:(t461 != 0)=true:=bne_iff_ne.mpr c3
  simp only [Option.some.injEq,Prod.mk.injEq] at H
  obtain ⟨rfl,rfl,rfl,rfl⟩:=H
  exact Zbg.leaf
def Zb3.f (k:Nat) (a0_0:Bool) (l0_1:List Int) (a0_2:Int) (a1_0:Bool) (l1_1:List Int) (a1_2:Int):Option (Int):=(Zaj.f k a0_0 l0_1 a0_2 a1_0 l1_1 a1_2).bind fun t873=>(some t873)
theorem Zb3.calls (k:Nat) (a0_0:Bool) (A0_1:Option Addr) (c0_1:Nat) (l0_1:List Int) (a0_2:Int) (a1_0:Bool) (A1_1:Option Addr) (c1_1:Nat) (l1_1:List Int) (a1_2:Int) (r:Int) (w:World) (hr0_1:Kd.C (Kd.int .u32) w A0_1 l0_1.length l0_1) (hc0_1:l0_1.length<=c0_1) (hr1_1:Kd.C (Kd.int .u32) w A1_1 l1_1.length l1_1) (hc1_1:l1_1.length<=c1_1) (h:Zb3.f k a0_0 l0_1 a0_2 a1_0 l1_1 a1_2=some r) :
  Calls Tryz.prog 25 #[.agg #[.bool a0_0,.slice A0_1 l0_1.length c0_1,.int .i64 a0_2],.agg #[.bool a1_0,.slice A1_1 l1_1.length c1_1,.int .i64 a1_2]] w fun e w'=>e=.returned (.int .i64 r)/\Below w.heap.size w w':=by
 have hu24:=Tryz.underlying24
 have HR0_1:=am hr0_1
 have HC0_1:=am hc0_1
 clear hr0_1 hc0_1
 have HR1_1:=am hr1_1
 have HC1_1:=am hc1_1
 clear hr1_1 hc1_1
 have HB:=am (Below.refl w.heap.size w)
 have H:((Zaj.f k a0_0 l0_1 a0_2 a1_0 l1_1 a1_2).bind fun t873=>(some t873))=some r:=h
 clear h
 obtain ⟨t873,A3,H⟩:=ob H
 obtain rfl:=Option.some.inj H
 go_enter Tryz.func25,Tryz.ntmps25
 go_wp2_with (first|((with_reducible refine gd 2 ?_);refine bx 2 #[.bool a0_0,.slice A0_1 l0_1.length c0_1,.int .i64 a0_2] 24 (h:=?_);intro gb871 hg w4 hbox hb;have BK871:=am hbox;have GW871:=gW hg;have GE871:=gW hg;replace HB:=bS hb;clear hb hbox hg)|((with_reducible refine gd 3 ?_);refine bx 3 #[.bool a1_0,.slice A1_1 l1_1.length c1_1,.int .i64 a1_2] 24 (h:=?_);intro gb872 hg w5 hbox hb;have BK872:=am hbox;have GW872:=gW hg;have GE872:=gW hg;have NB871_872:=nL hg BK871;have NB872_871:=nG hg BK871;replace BK871:=bb BK871 hb;replace HB:=bS hb;clear hb hbox hg;have hnb6:=NB871_872.out;have hnc6:=NB872_871.out;obtain ⟨hcz7_0,hcz7_1,hcz7_2,hfz7_0,hfz7_1,hfz7_2⟩:=cEc BK871.out;obtain ⟨hcz8_0,hcz8_1,hcz8_2,hfz8_0,hfz8_1,hfz8_2⟩:=cEc BK872.out)|(refine gL (some 7) Tryz.func81 #[.agg #[.bool a0_0,.slice A0_1 l0_1.length c0_1,.int .i64 a0_2],.agg #[.bool a1_0,.slice A1_1 l1_1.length c1_1,.int .i64 a1_2]] (h:=?_);(with_reducible refine (Zaj.calls k a0_0 _ _ l0_1 a0_2 a1_0 _ _ l1_1 a1_2 t873 _ ?side1 ?side2 ?side3 ?side4 A3.out).mono ?_);(case side1=>refine cp ?_;exact (Kd.Zh HR0_1.out HB.out));(case side2=>exact HC0_1.out);(case side3=>refine cp ?_;exact (Kd.Zh HR1_1.out HB.out));(case side4=>exact HC1_1.out);rintro e w9 ⟨rfl,hb⟩;refine ⟨_,rfl,?_⟩;replace BK871:=bb BK871 hb;replace BK872:=bb BK872 hb;replace HB:=bS hb))
 go_ret
 exact ⟨pE,pB⟩
end YtjbjkmccfocikaaGreatDoor.B
end
section
namespace YtjbjkmccfocikaaGreatDoor.P.Nm
open Go.RowKit YtjbjkmccfocikaaGreatDoorW.PrintWords YtjbjkmccfocikaaGreatDoorW.PrintLast YtjbjkmccfocikaaGreatDoorW.PrintMore YtjbjkmccfocikaaGreatDoor.B YtjbjkmccfocikaaGreatDoor.P
theorem Zps (x:Int):Go.bits .and .i64 x 1=x % 2:=by
 show IntKind.i64.wrap ((BitVec.ofInt 64 x &&& BitVec.ofInt 64 1).toNat:Int)=_
 have e1:(BitVec.ofInt 64 1).toNat=1:=by decide
 rw [BitVec.toNat_and,e1,BitVec.toNat_ofInt,Nat.and_one_is_mod]
 have e2:(((x % ((2 ^ 64:Nat):Int)).toNat % 2:Nat):Int)=x % 2:=by
  have:((2 ^ 64:Nat):Int)=18446744073709551616:=by decide
  rw [this]
  omega
 rw [e2]
 simp [IntKind.wrap,IntKind.bits,IntKind.signed]
 omega
theorem Zrp (n:Nat):(decT n).size=dl n:=Ze5 n
theorem Zga {n:Nat} (h:(limbs n).length<=256):Tells (fun k=>Zbm.f k (limbs n)) (dl n:Int):=by
 unfold Zbm.f Zct.f
 refine (Zfu h).bind ((Tells.pure _).bind ((Tells.pure _).val ?_))
 rw [Zrp]
theorem Zik {n:Nat} (h:n<=2400):Tells (fun k=>Zck.f k (n:Int)) (limbs (10 ^ n)):=by
 unfold Zck.f Zy.f
 exact (Znk n h).bind ((Tells.pure _).bind (Tells.pure _))
theorem Zjb {n:Nat} (h:(limbs n).length<=256) (hn:nd n<=2300):Tells (fun k=>Zcb.f k (limbs n) 40) (limbs (n / 10 ^ cutN n),limbs (n % 10 ^ cutN n),(cutN n:Int)):=by
 have h1:=Zrn n
 have e1:mx (wrap64 ((dl n:Int) - 40)) 0=((cutN n:Nat):Int):=by rw [w64n (by omega) (by omega),Zsy];unfold cutN;omega
 have hp:=Zik (n:=cutN n) (by unfold cutN;omega)
 have hpl:(limbs (10 ^ cutN n)).length<=256:=Zgz (by rw [Zj0];unfold cutN;omega)
 have hp0:10 ^ cutN n ≠ 0:=by have := Zcj (cutN n);omega
 unfold Zcb.f
 refine (Zga h).bind ?_
 rw [e1]
 refine hp.bind ((Zjf h hpl).bind ?_)
 rw [if_neg hp0]
 exact Tells.pure _
theorem Zok {n j:Nat} (h:nd n<=300) (hj:j<=400):nd (n * 10 ^ j)<=700:=Nat.le_trans (Zee n j) (by omega)
theorem QSqrt {D:Dm} (hD:OkD D) (hpos:D.neg=false):Tells (fun k=>Zbg.f k D.neg (limbs D.n) D.e) (outD (sqrtD D)):=by
 have l1:=hD.len
 have b1:=hD.low;have b3:=hD.high
 have dD:=Zrn D.n
 have e0:mx (wrap64 (80 - (dl D.n:Int))) 0=((80 - dl D.n:Nat):Int):=by rw [w64n (by omega) (by omega),Zsy];omega
 have e1:wrap64 (((80 - dl D.n:Nat):Int) + (Go.bits .and .i64 (wrap64 (D.e - ((80 - dl D.n:Nat):Int))) 1))=((padR D:Nat):Int):=by
  rw [Zps,w64n (z:=D.e - ((80 - dl D.n:Nat):Int)) (by omega) (by omega),w64n (by omega) (by omega)]
  unfold padR;omega
 obtain ⟨n,hn⟩:∃ n,padR D=n:=⟨_,rfl⟩
 obtain ⟨hev,hn1⟩:(D.e - (n:Int)) % 2=0/\n<=81:=by rw [<- hn];rcases Zhw D with h|h <;> omega
 rw [hn] at e1
 have hX:=Zok (n:=D.n) (j:=n) l1 (by omega)
 have hm:=Znh (m:=D.n) (n:=10 ^ n) (Zgz (by omega)) (Zgz (by rw [Zj0];omega))
 rw [Zst (Zgz (by omega))] at hm
 have hr:=Zms (m:=D.n * 10 ^ n) (Zgz (by omega))
 have hrn:=Zr5 (D.n * 10 ^ n) 700 hX
 obtain ⟨q,hqe⟩:∃ q,root (D.n * 10 ^ n)=q:=⟨_,rfl⟩
 rw [hqe] at hr hrn
 have hpt:=Zjb (n:=q) (Zgz (by omega)) (by omega)
 have hc1:=Zrn q
 obtain ⟨c,hce⟩:∃ c,cutN q=c:=⟨_,rfl⟩
 have hc:c<=700:=by rw [<- hce];unfold cutN;omega
 rw [hce] at hpt
 have hh:nd (q / 10 ^ c)<=700:=Nat.le_trans (Zdz (Nat.div_le_self _ _)) hrn
 have et:Int.tdiv (D.e - (n:Int)) 2=(D.e - (n:Int)) / 2:=by
  obtain ⟨y,hy⟩:∃ y:Int,D.e - (n:Int)=2 * y:=⟨(D.e - (n:Int)) / 2,by omega⟩
  rw [hy,Int.mul_tdiv_cancel_left y (by decide)]
  omega
 have e2:wrap64 ((wrap64 (Int.tdiv (wrap64 (D.e - (n:Int))) 2)) + (c:Int))=(D.e - n) / 2 + c:=by
  rw [w64n (z:=D.e - (n:Int)) (by omega) (by omega),et,w64n (z:=(D.e - (n:Int)) / 2) (by omega) (by omega),w64n (by omega) (by omega)]
 have hgoal:sqrtD D=settleD ⟨false,q / 10 ^ c,(D.e - n) / 2 + c⟩:=by
  unfold sqrtD rootD
  simp only [hn,hqe,hce]
 have hs:=Zio false (q / 10 ^ c) ((D.e - n) / 2 + c) (Zgz (by omega)) (by omega)
 rw [if_neg (by omega)] at hs
 rw [hgoal]
 have hck:=DCheck D hD
 rw [hpos] at hck ⊢
 unfold Zbg.f Zy.f
 refine hck.bind (Tells.ifp rfl (Tells.ifn (by decide) ((Zga (Zgz (by omega))).bind ?_)))
 rw [e0,e1]
 refine (Zik (by omega)).bind (hm.bind ((Tells.pure _).bind (hr.bind ((Tells.pure _).bind (hpt.bind ?_)))))
 dsimp only
 rw [e2]
 exact hs.bind (Tells.pure _)
theorem Znm {D:Dm} (hD:OkD D) (hneg:D.neg=true):Tells (fun k=>Zbg.f k D.neg (limbs D.n) D.e) (false,[],0,4):=by
 unfold Zbg.f
 exact (DCheck D hD).bind (Tells.ifp rfl (Tells.ifp hneg (Tells.pure _)))
theorem Znl {a:Bool} {l:List Int} {e:Int} (hl:Dg 4294967296 l) (hl2:l.length<=9223372036854775807) (h:¬ chk a l e=0):Tells (fun k=>Zbg.f k a l e) (false,[],0,9):=by
 unfold Zbg.f
 refine (Zgu a l e hl hl2).bind (Tells.ifn h ((Tells.pure _).val ?_))
 rcases Zsr a l e with h1|h1
 ·exact absurd h1 h
 ·rw [h1]
theorem Rorder {D E:Dm} (hD:OkD D) (hE:OkD E):Tells (fun k=>Zb3.f k D.neg (limbs D.n) D.e E.neg (limbs E.n) E.e) (cmpD D E):=by
 unfold Zb3.f
 exact (ROrder D E hD hE).bind (Tells.pure _)
end YtjbjkmccfocikaaGreatDoor.P.Nm
end
section
namespace YtjbjkmccfocikaaGreatDoor.P.Nm
open Go.RowKit YtjbjkmccfocikaaGreatDoorW.PrintWords YtjbjkmccfocikaaGreatDoor.B YtjbjkmccfocikaaGreatDoor.P
theorem Tells.at {α:Type} {f:Nat->Option α} {v:α} (n:Nat) (h:∀ k,f (k + n)=some v):Tells f v:=⟨n,fun k hk=>by
 obtain ⟨j,rfl⟩:∃ j,k=j + n:=⟨k - n,by omega⟩
 exact h j⟩
end YtjbjkmccfocikaaGreatDoor.P.Nm
end
section
namespace YtjbjkmccfocikaaGreatDoor.B
open Go.RowKit YtjbjkmccfocikaaGreatDoorW.PrintWords YtjbjkmccfocikaaGreatDoorW.PrintLast YtjbjkmccfocikaaGreatDoorW.PrintMore
attribute [local go_sem] Zb7 Zb9 Zcu Zcv Zbt Zbu Zb8 Zca
def Zbe.f (a0:Int):Option (Int):=some a0
theorem Zbe.calls (a0:Int) (r:Int) (w:World) (h:Zbe.f a0=some r) :
  Calls Tryz.prog 20 #[.int .i64 a0] w fun e w'=>e=.returned (.int .i64 r)/\Drawn0 w w':=by
 have H:(some a0)=some r:=h
 clear h
 obtain rfl:=Option.some.inj H
 go_enter Tryz.func20,Tryz.ntmps20
 go_wp2
 go_ret
 exact ⟨pR,pD⟩
def Za7.l0:Nat->Int->ByteArray->Int->Option (ByteArray)
 | 0,_,_,_=>none
 | k + 1,x0,x3,x4=>if x4 < x0 then (if x3.size + 1<=9223372036854775807 then (Za7.l0 k x0 (x3 ++ (⟨#[48]⟩:ByteArray)) (wrap64 (x4 + 1))) else (none)) else (some x3)
def Za7.f (k:Nat) (a0:Int):Option (ByteArray):=Za7.l0 k a0 (⟨#[]⟩:ByteArray) 0
theorem Za7.calls (k:Nat) (a0:Int) (r:ByteArray) (w:World) (h:Za7.f k a0=some r) :
  Calls Tryz.prog 119 #[.int .i64 a0] w fun e w'=>e=.returned (.string r)/\Drawn0 w w':=by
 have H:(Za7.l0 k a0 (⟨#[]⟩:ByteArray) 0)=some r:=h
 clear h
 have H':=am H
 clear H
 go_enter Tryz.func119,Tryz.ntmps119
 go_wp2
 go_loopg [3,4] k (fun kq v3 v4 w' => ∃ (x3_1:ByteArray) (x4_1:Int),v3=.string x3_1/\v4=.int .i64 x4_1/\Aside0 (Za7.l0 kq a0 x3_1 x4_1=some r)/\Aside0 (kq<=k)/\Drawn0 w w')
 case atStart=>exact ⟨((⟨#[]⟩:ByteArray)),(0),pR,pR,H',⟨Nat.le_refl _⟩,pD⟩
 case round =>
  clear H'
  obtain ⟨x3_1,x4_1,rfl,rfl,HA,HK1,⟨m1,rfl⟩⟩:=hrel
  cases gk with
  | zero=>exact absurd HA.out (by simp [Za7.l0])
  | succ k1 =>
   have H:=HA.out
   clear HA
   simp only [Za7.l0] at H
   by_cases c2:x4_1 < a0
   ·rw [if_pos c2] at H
    have c2b0:decide (x4_1 < a0)=true:=decide_eq_true c2
    clear c2
    by_cases c3:x3_1.size + 1<=9223372036854775807
    ·rw [if_pos c3] at H
     have c3b0:=eq_true c3
     have c3b1:decide (x3_1.size + 1<=9223372036854775807)=true:=decide_eq_true c3
     try have c3b2:(9223372036854775807 < x3_1.size + 1)=False:=eq_false (Nat.not_lt.2 c3)
     have H':=am H
     clear H
     go_wp2
     go_roundg k1
     case measure=>have := HK1.out;omega
     case rel=>exact ⟨(x3_1 ++ (⟨#[48]⟩:ByteArray)),(wrap64 (x4_1 + 1)),pR,pR,H',⟨by have := HK1.out;omega⟩,pD⟩
    ·rw [if_neg c3] at H
     exact absurd H (by simp)
   ·rw [if_neg c2] at H
    have c2b0:decide (x4_1 < a0)=false:=decide_eq_false c2
    clear c2
    obtain rfl:=Option.some.inj H
    go_wp2
    go_ret
    exact ⟨pR,pD⟩
def Zbd.f:Nat->Int->Option (ByteArray)
 | 0,_=>none
 | k + 1,a0=>if a0 < 10 then (some (strOfNums (([(wrap64 (48 + a0)) % 256]:List Int)))) else ((Zbd.f k (wrap64 (Int.tdiv a0 10))).bind fun t599=>((Zbd.f k (Int.tmod a0 10)).bind fun t600=>(if t599.size + t600.size<=9223372036854775807 then (some (t599 ++ t600)) else (none))))
theorem Zbd.calls (k:Nat):∀ (a0:Int) (r:ByteArray) (w:World) (h:Zbd.f k a0=some r),
  Calls Tryz.prog 120 #[.int .i64 a0] w fun e w'=>e=.returned (.string r)/\Below w.heap.size w w':=by
 induction k using Nat.strongRecOn with
 | _ k ih =>
 intro a0 r w h
 cases k with
 | zero=>exact absurd h (by simp [Zbd.f])
 | succ k =>
 simp only [Zbd.f] at h
 have HB:=am (Below.refl w.heap.size w)
 have H:(if a0 < 10 then (some (strOfNums (([(wrap64 (48 + a0)) % 256]:List Int)))) else ((Zbd.f k (wrap64 (Int.tdiv a0 10))).bind fun t599=>((Zbd.f k (Int.tmod a0 10)).bind fun t600=>(if t599.size + t600.size<=9223372036854775807 then (some (t599 ++ t600)) else (none)))))=some r:=h
 clear h
 by_cases c2:a0 < 10
 ·rw [if_pos c2] at H
  have c2b0:decide (a0 < 10)=true:=decide_eq_true c2
  clear c2
  obtain ⟨y596,hy596⟩:∃ y_:List Int,y_=(([(wrap64 (48 + a0)) % 256]:List Int)):=⟨_,rfl⟩
  replace H:(some (strOfNums y596))=some r:=by have hy_:=hy596;exact pH
  have Ny596:=am hy596
  clear hy596
  obtain rfl:=Option.some.inj H
  go_enter Tryz.func120,Tryz.ntmps120
  go_wp2_with (first|((with_reducible refine gd 8 ?_);refine Kd.Zg2 (Kd.int .u8) _ 5 ?hg (N:=8) ?hd (xs:=([(wrap64 (48 + a0)) % 256]:List Int)) (inner:=[.int .u8 ((wrap64 (48 + a0)) % 256)]) (ok:=fun _=>True) (okp:=fun _=>True) ?hr ?hp (fun _ hk=>hk) trivial (Below.refl _ _) (Nat.le_refl _) (by simp) ?_;(case hd=>rfl);(case hg=>rfl);(case hr=>first|(go_simp;done)|(go_simp;rfl));(case hp=>exact (Reps.one (show Kd.M (Kd.int .u8) _ _ _ ((wrap64 (48 + a0)) % 256) [.int .u8 ((wrap64 (48 + a0)) % 256)] from rfl) (Reps.none _ _)));intro v597 w3 ho4 hb hg_ hnew_;clear hg_ hnew_;(first|rw [<- Ny596.out] at ho4|(simp only [Int.reduceToNat] at ho4;rw [<- Ny596.out] at ho4));have HO598:=am (Kd.Zq ho4 (Zb pB));replace HB:=bS hb;clear hb ho4;have hcv5:=Zgq (P:=Tryz.prog) Tryz.underlying146 Tryz.underlying5 Tryz.underlying9 (Kd.Zdq HO598.out)))
  go_ret
  exact ⟨pE,pB⟩
 ·rw [if_neg c2] at H
  have c2b0:decide (a0 < 10)=false:=decide_eq_false c2
  clear c2
  obtain ⟨t599,A6,H⟩:=ob H
  obtain ⟨t600,A7,H⟩:=ob H
  by_cases c8:t599.size + t600.size<=9223372036854775807
  ·rw [if_pos c8] at H
   have c8b0:=eq_true c8
   have c8b1:decide (t599.size + t600.size<=9223372036854775807)=true:=decide_eq_true c8
   try have c8b2:(9223372036854775807 < t599.size + t600.size)=False:=eq_false (Nat.not_lt.2 c8)
   obtain rfl:=Option.some.inj H
   go_enter Tryz.func120,Tryz.ntmps120
   go_wp2_with (first|(refine gL (some 12) Tryz.func120 #[.int .i64 (wrap64 (Int.tdiv a0 10))] (h:=?_);(with_reducible refine (ih k (by omega) (wrap64 (Int.tdiv a0 10)) t599 _ A6.out).mono ?_);rintro e w9 ⟨rfl,hb⟩;refine ⟨_,rfl,?_⟩;replace HB:=bS hb)|(refine gL (some 15) Tryz.func120 #[.int .i64 (Int.tmod a0 10)] (h:=?_);(with_reducible refine (ih k (by omega) (Int.tmod a0 10) t600 _ A7.out).mono ?_);rintro e w10 ⟨rfl,hb⟩;refine ⟨_,rfl,?_⟩;replace HB:=bS hb))
   go_ret
   exact ⟨pE,pB⟩
  ·rw [if_neg c8] at H
   exact absurd H (by simp)
mutual
def Zf.j0:Nat->ByteArray->ByteArray->Bool->List Int->Int->Option (ByteArray)
 | 0,_,_,_,_,_=>none
 | k + 1,x4,x5,x608000,x608001,x608002=>if (x608001.length:Int)=0 then (some (⟨#[48]⟩:ByteArray)) else (if (wrap64 ((x4.size:Int) + x608002)) >= (-5) then (Zf.j1 k x4 x5 (wrap64 ((x4.size:Int) + x608002)) (decide ((wrap64 ((x4.size:Int) + x608002)) < 1))) else (Zf.j1 k x4 x5 (wrap64 ((x4.size:Int) + x608002)) false))
def Zf.j3:Nat->ByteArray->ByteArray->Int->Option (ByteArray)
 | 0,_,_,_=>none
 | k + 1,x4,x5,x6=>if (wrap64 (x6 - 1)) < 0 then (Zf.j4 k x4 x5 (wrap64 (-(wrap64 (x6 - 1)))) (⟨#[101,45]⟩:ByteArray)) else (Zf.j4 k x4 x5 (wrap64 (x6 - 1)) (⟨#[101,43]⟩:ByteArray))
def Zf.j4:Nat->ByteArray->ByteArray->Int->ByteArray->Option (ByteArray)
 | 0,_,_,_,_=>none
 | k + 1,x4,x5,x6,x7=>if (x4.size:Int) > 1 then (if 0<=1 then (if 1<=(x4.size:Int) then (if x5.size + (x4.extract 0 1).size<=9223372036854775807 then (if (x5 ++ (x4.extract 0 1)).size + 1<=9223372036854775807 then (if ((x5 ++ (x4.extract 0 1)) ++ (⟨#[46]⟩:ByteArray)).size + (x4.extract 1 x4.size).size<=9223372036854775807 then (if (((x5 ++ (x4.extract 0 1)) ++ (⟨#[46]⟩:ByteArray)) ++ (x4.extract 1 x4.size)).size + x7.size<=9223372036854775807 then ((Zbd.f k x6).bind fun t611=>(if ((((x5 ++ (x4.extract 0 1)) ++ (⟨#[46]⟩:ByteArray)) ++ (x4.extract 1 x4.size)) ++ x7).size + t611.size<=9223372036854775807 then (some (((((x5 ++ (x4.extract 0 1)) ++ (⟨#[46]⟩:ByteArray)) ++ (x4.extract 1 x4.size)) ++ x7) ++ t611)) else (none))) else (none)) else (none)) else (none)) else (none)) else (none)) else (none)) else (if x5.size + x4.size<=9223372036854775807 then (if (x5 ++ x4).size + x7.size<=9223372036854775807 then ((Zbd.f k x6).bind fun t612=>(if ((x5 ++ x4) ++ x7).size + t612.size<=9223372036854775807 then (some (((x5 ++ x4) ++ x7) ++ t612)) else (none))) else (none)) else (none))
def Zf.j1:Nat->ByteArray->ByteArray->Int->Bool->Option (ByteArray)
 | 0,_,_,_,_=>none
 | k + 1,x4,x5,x6,x25=>if x25=true then (if x5.size + 2<=9223372036854775807 then ((Za7.f k (wrap64 (-x6))).bind fun t609=>(if (x5 ++ (⟨#[48,46]⟩:ByteArray)).size + t609.size<=9223372036854775807 then (if ((x5 ++ (⟨#[48,46]⟩:ByteArray)) ++ t609).size + x4.size<=9223372036854775807 then (some (((x5 ++ (⟨#[48,46]⟩:ByteArray)) ++ t609) ++ x4)) else (none)) else (none))) else (none)) else (if x6 >= 1 then (if x6<=21 then (Zf.j2 k x4 x5 x6 (decide (x6 < (x4.size:Int)))) else (Zf.j2 k x4 x5 x6 false)) else (Zf.j2 k x4 x5 x6 false))
def Zf.j2:Nat->ByteArray->ByteArray->Int->Bool->Option (ByteArray)
 | 0,_,_,_,_=>none
 | k + 1,x4,x5,x6,x40=>if x40=true then (if 0<=x6 then (if x6<=(x4.size:Int) then (if x5.size + (x4.extract 0 (x6:Int).toNat).size<=9223372036854775807 then (if (x5 ++ (x4.extract 0 (x6:Int).toNat)).size + 1<=9223372036854775807 then (if ((x5 ++ (x4.extract 0 (x6:Int).toNat)) ++ (⟨#[46]⟩:ByteArray)).size + (x4.extract (x6:Int).toNat x4.size).size<=9223372036854775807 then (some (((x5 ++ (x4.extract 0 (x6:Int).toNat)) ++ (⟨#[46]⟩:ByteArray)) ++ (x4.extract (x6:Int).toNat x4.size))) else (none)) else (none)) else (none)) else (none)) else (none)) else (if x6 >= 1 then (if x6<=21 then (if x5.size + x4.size<=9223372036854775807 then ((Za7.f k (wrap64 (x6 - (x4.size:Int)))).bind fun t610=>(if (x5 ++ x4).size + t610.size<=9223372036854775807 then (some ((x5 ++ x4) ++ t610)) else (none))) else (none)) else (Zf.j3 k x4 x5 x6)) else (Zf.j3 k x4 x5 x6))
end
def Zf.f (k:Nat) (a0_0:Bool) (l0_1:List Int) (a0_2:Int):Option (ByteArray):=(Zp.f k a0_0 l0_1 a0_2).bind fun bt602=>((Zbc.f k bt602.2.1).bind fun t608=>(if bt602.1=true then (Zf.j0 k t608 (⟨#[45]⟩:ByteArray) bt602.1 bt602.2.1 bt602.2.2) else (Zf.j0 k t608 (⟨#[]⟩:ByteArray) bt602.1 bt602.2.1 bt602.2.2)))
def Zf.T11:Bool × List (List Nat × List Nat):=(true,[([],[]),([],[]),([],[]),([1,2],[1,2]),([0,3],[0,3]),([4],[4]),([],[]),([],[]),([6,7],[6,7]),([5,8],[5,8]),([9,0,1,2,3,4,5,6,7,8,9],[9])])
def Zf.B11:List Nat:=[0,0,0,6,15,31,0,0,192,511,1023]
theorem Zf.tab11:rtab .any (opsOf Tryz.f63 11)=Zf.T11:=by kernel_rfl
theorem Zf.bits11:waitsOk Zf.T11.2 Zf.B11=true:=by kernel_rfl
def Zf.T19:Bool × List (List Nat × List Nat):=(true,[([],[]),([],[]),([1],[1]),([0,2],[0,2]),([3],[3]),([],[]),([5],[5]),([4,6],[4,6]),([],[]),([7,8],[7,8]),([],[]),([10],[10]),([9,11],[9,11]),([12,11,0,1,2,3,4,5,6,7,8,9,10,11,12],[12])])
def Zf.B19:List Nat:=[0,0,2,7,15,0,32,127,0,511,0,1024,4095,8191]
theorem Zf.tab19:rtab .any (opsOf Tryz.f63 19)=Zf.T19:=by kernel_rfl
theorem Zf.bits19:waitsOk Zf.T19.2 Zf.B19=true:=by kernel_rfl
theorem Zf.calls (k:Nat) (a0_0:Bool) (A0_1:Option Addr) (c0_1:Nat) (l0_1:List Int) (a0_2:Int) (r:ByteArray) (w:World) (hr0_1:Kd.C (Kd.int .u32) w A0_1 l0_1.length l0_1) (hc0_1:l0_1.length<=c0_1) (h:Zf.f k a0_0 l0_1 a0_2=some r) :
  Calls Tryz.prog 63 #[.agg #[.bool a0_0,.slice A0_1 l0_1.length c0_1,.int .i64 a0_2]] w fun e w'=>e=.returned (.string r)/\Below w.heap.size w w':=by
 have hu24:=Tryz.underlying24
 have hu30:=Tryz.underlying30
 have HR0_1:=am hr0_1
 have HC0_1:=am hc0_1
 clear hr0_1 hc0_1
 have HB:=am (Below.refl w.heap.size w)
 have H:((Zp.f k a0_0 l0_1 a0_2).bind fun bt602=>((Zbc.f k bt602.2.1).bind fun t608=>(if bt602.1=true then (Zf.j0 k t608 (⟨#[45]⟩:ByteArray) bt602.1 bt602.2.1 bt602.2.2) else (Zf.j0 k t608 (⟨#[]⟩:ByteArray) bt602.1 bt602.2.1 bt602.2.2))))=some r:=h
 clear h
 obtain ⟨⟨t602,t603,t606⟩,A2,H⟩:=ob H;(try dsimp only at H)
 obtain ⟨t608,A3,H⟩:=ob H
 have HC4:=am H
 clear H
 go_enter Tryz.func63,Tryz.ntmps63
 go_upto_if 14 with (first|((with_reducible refine gd 1 ?_);(try (refine Zas (by rfl) ?_;dsimp only));refine bx 1 #[.bool a0_0,.slice A0_1 l0_1.length c0_1,.int .i64 a0_2] 24 (h:=?_);intro gb601 hg w5 hbox hb;have BK601:=am hbox;have GW601:=gW hg;have GE601:=gW hg;replace HB:=bS hb;clear hb hbox hg;obtain ⟨hcz6_0,hcz6_1,hcz6_2,hfz6_0,hfz6_1,hfz6_2⟩:=cEc BK601.out)|(refine gL (some 9) Tryz.func18 #[.agg #[.bool a0_0,.slice A0_1 l0_1.length c0_1,.int .i64 a0_2]] (h:=?_);(with_reducible refine (Zp.calls k a0_0 _ _ l0_1 a0_2 t602 t603 t606 _ ?side1 ?side2 A2.out).mono ?_);(case side1=>refine cp ?_;exact (Kd.Zh HR0_1.out HB.out));(case side2=>exact HC0_1.out);rintro e w7 ⟨v604,rfl,ho0,hb⟩;refine ⟨_,rfl,?_⟩;have HO605:=am (Kd.Zq ho0 (Zb pB));replace BK601:=bb BK601 hb;replace HB:=bS hb)|((with_reducible refine gd 3 ?_);(try (refine Zas (by rfl) ?_;dsimp only));refine bx 3 #[.bool false,.slice none 0 0,.int .i64 0] 30 (h:=?_);intro gb607 hg w8 hbox hb;have BK607:=am hbox;have GW607:=gW hg;have GE607:=gW hg;have NB601_607:=nL hg BK601;have NB607_601:=nG hg BK601;replace HO605:=rbl HO605 hb;replace BK601:=bb BK601 hb;replace HB:=bS hb;clear hb hbox hg;have hnb9:=NB607_601.out;have hnc9:=NB601_607.out;obtain ⟨hcz10_0,hcz10_1,hcz10_2,hfz10_0,hfz10_1,hfz10_2⟩:=cEc BK607.out;obtain ⟨Ao11,co11,eo11⟩:=Kd.Zm HO605.out;subst eo11)|(refine gL (some 12) Tryz.func118 #[.slice Ao11 t603.length co11] (h:=?_);(with_reducible refine (Zbc.calls k _ _ t603 t608 _ ?side1 ?side2 A3.out).mono ?_);(case side1=>refine (Kd.Zd (e:=3) (base:=w.heap.size) (ok:=fun k_=>True) (n:=t603.length) (c:=co11) ?_).2.2;exact (Kd.Za (z3 HO605.out BK607.out (by decide) (.bool t602) (.slice Ao11 t603.length co11) (.int .i64 t606)) pl));(case side2=>exact (Kd.Zd HO605.out).2.1);rintro e w12 ⟨rfl,hb⟩;refine ⟨_,rfl,?_⟩;replace HO605:=am (Kd.Za (Kd.Za (z3 HO605.out BK607.out (by decide) (.bool t602) (.slice Ao11 t603.length co11) (.int .i64 t606)) pl) hb);replace BK601:=bfb NB601_607 BK601 hb;replace BK607:=am (Zc (g:=gb607) (o:=.cells #[.bool t602,.slice Ao11 t603.length co11,.int .i64 t606] 30 (0,0)) (by exact p3 BK607) hb);replace HB:=bS hb;obtain ⟨hcz13_0,hcz13_1,hcz13_2,hfz13_0,hfz13_1,hfz13_2⟩:=cEc BK607.out))
 (try simp only [Act.put,List.setIfInBounds_toArray,List.set_cons_zero,List.set_cons_succ])
 go_cut [5] (fun v5 wc => ∃ (kq:Nat) (x5_3:ByteArray),v5=.string x5_3/\Aside0 (Zf.j0 kq t608 x5_3 t602 t603 t606=some r)/\Aside0 (kq<=k)/\Aside0 (Kd.R (Kd.int .i64) 3 wc w.heap.size (fun _=>True) (.slice Ao11 t603.length co11) t603)/\Aside0 (wc.heap[gb601]? = some (.cells #[.bool a0_0,(.slice A0_1 l0_1.length c0_1),.int .i64 a0_2] 24 (0,0)))/\Aside0 (wc.heap[gb607]? = some (.cells #[.bool t602,(.slice Ao11 t603.length co11),.int .i64 t606] 30 (0,0)))/\Aside0 (Below w.heap.size w wc))
 case first =>
  have H:=HC4.out
  clear HC4
  by_cases c14:t602=true
  ·subst c14
   rw [if_pos rfl] at H
   have H':=am H
   clear H
   go_wp2
   go_meet
   case rel=>exact ⟨_,((⟨#[45]⟩:ByteArray)),pR,H',⟨by first|omega|exact Nat.le_refl _⟩,⟨by refine rp ?_;exact HO605.out⟩,⟨Zc BK601.out pl⟩,⟨Zc BK607.out pl⟩,⟨pB⟩⟩
  ·replace c14:=Bool.eq_false_iff.mpr c14
   subst c14
   rw [if_neg (show ¬ (false=true) by decide)] at H
   have H':=am H
   clear H
   go_wp2
   go_meet
   case rel=>exact ⟨_,((⟨#[]⟩:ByteArray)),pR,H',⟨by first|omega|exact Nat.le_refl _⟩,⟨by refine rp ?_;exact HO605.out⟩,⟨Zc BK601.out pl⟩,⟨Zc BK607.out pl⟩,⟨pB⟩⟩
 case rest =>
  clear HC4
  obtain ⟨kq,x5_3,rfl,HA,HJ3,HO_608001,BK601,BK607,HB⟩:=hcut
  cases kq with
  | zero=>exact absurd HA.out (by simp [Zf.j0])
  | succ kj3 =>
   have H:=HA.out
   clear HA
   simp only [Zf.j0] at H
   have HC15:=am H
   clear H
   have hnb16:=NB607_601.out
   have hnc16:=NB601_607.out
   obtain ⟨hcz17_0,hcz17_1,hcz17_2,hfz17_0,hfz17_1,hfz17_2⟩:=cEc BK607.out
   go_upto_block 0 with (fail)
   go_cut [] (fun wc => ∃ (kq:Nat),Aside0 (Zf.j3 kq t608 x5_3 (wrap64 ((t608.size:Int) + t606))=some r)/\Aside0 (kq<=kj3)/\Aside0 (Kd.R (Kd.int .i64) 3 wc w.heap.size (fun _=>True) (.slice Ao11 t603.length co11) t603)/\Aside0 (wc.heap[gb601]? = some (.cells #[.bool a0_0,(.slice A0_1 l0_1.length c0_1),.int .i64 a0_2] 24 (0,0)))/\Aside0 (wc.heap[gb607]? = some (.cells #[.bool t602,(.slice Ao11 t603.length co11),.int .i64 t606] 30 (0,0)))/\Aside0 (Below w.heap.size w wc))
   case first =>
    have H:=HC15.out
    clear HC15
    by_cases c18:(t603.length:Int)=0
    ·rw [if_pos c18] at H
     have c18b0:((t603.length:Int) == 0)=true:=beq_iff_eq.mpr c18
     have c18b1:((t603.length:Int) != 0)=false:=bne_eq_false_iff_eq.mpr c18
     clear c18
     (first|rw [c18b0]|(simp only [Zcc,Zdc];rw [c18b0])|skip)
     obtain rfl:=Option.some.inj H
     have hnb19:=NB607_601.out
     have hnc19:=NB601_607.out
     obtain ⟨hcz20_0,hcz20_1,hcz20_2,hfz20_0,hfz20_1,hfz20_2⟩:=cEc BK607.out
     go_wp2
     go_ret
     exact ⟨pE,pB⟩
    ·rw [if_neg c18] at H
     have c18b0:((t603.length:Int) == 0)=false:=beq_eq_false_iff_ne.mpr c18
     have c18b1:((t603.length:Int) != 0)=true:=bne_iff_ne.mpr c18
     have c18b2:¬ (t603=[]):=fun h_=>c18 (by rw [h_];rfl)
     (first|rw [c18b0]|(simp only [Zcc,Zdc];rw [c18b0])|skip)
     have HC21:=am H
     clear H
     have hnb22:=NB607_601.out
     have hnc22:=NB601_607.out
     obtain ⟨hcz23_0,hcz23_1,hcz23_2,hfz23_0,hfz23_1,hfz23_2⟩:=cEc BK607.out
     go_upto_region 8 with (fail)
     go_cut [25] (fun v25 wc => ∃ (kq:Nat) (x25_20:Bool),v25=.bool x25_20/\Aside0 (Zf.j1 kq t608 x5_3 (wrap64 ((t608.size:Int) + t606)) x25_20=some r)/\Aside0 (kq<=kj3)/\Aside0 (Kd.R (Kd.int .i64) 3 wc w.heap.size (fun _=>True) (.slice Ao11 t603.length co11) t603)/\Aside0 (wc.heap[gb601]? = some (.cells #[.bool a0_0,(.slice A0_1 l0_1.length c0_1),.int .i64 a0_2] 24 (0,0)))/\Aside0 (wc.heap[gb607]? = some (.cells #[.bool t602,(.slice Ao11 t603.length co11),.int .i64 t606] 30 (0,0)))/\Aside0 (Below w.heap.size w wc))
     case first =>
      have H:=HC21.out
      clear HC21
      by_cases c24:(wrap64 ((t608.size:Int) + t606)) >= (-5)
      ·rw [if_pos c24] at H
       have c24b0:decide ((-5)<=(wrap64 ((t608.size:Int) + t606)))=true:=decide_eq_true c24
       clear c24
       (first|rw [c24b0]|(simp only [Zcc,Zdc];rw [c24b0])|skip)
       have H':=am H
       clear H
       go_wp2
       go_meet
       case rel=>exact ⟨_,(decide ((wrap64 ((t608.size:Int) + t606)) < 1)),pR,H',⟨by have := HJ3.out;first|omega|exact Nat.le_refl _⟩,⟨by refine rp ?_;exact HO_608001.out⟩,⟨Zc BK601.out pl⟩,⟨Zc BK607.out pl⟩,⟨pB⟩⟩
      ·rw [if_neg c24] at H
       have c24b0:decide ((-5)<=(wrap64 ((t608.size:Int) + t606)))=false:=decide_eq_false c24
       clear c24
       (first|rw [c24b0]|(simp only [Zcc,Zdc];rw [c24b0])|skip)
       have H':=am H
       clear H
       go_wp2
       go_meet
       case rel=>exact ⟨_,(false),pR,H',⟨by have := HJ3.out;first|omega|exact Nat.le_refl _⟩,⟨by refine rp ?_;exact HO_608001.out⟩,⟨Zc BK601.out pl⟩,⟨Zc BK607.out pl⟩,⟨pB⟩⟩
     case rest =>
      clear HC21
      obtain ⟨kq,x25_20,rfl,HA,HJ20,HO_608001,BK601,BK607,HB⟩:=hcut
      cases kq with
      | zero=>exact absurd HA.out (by simp [Zf.j1])
      | succ kj20 =>
       have H:=HA.out
       clear HA
       simp only [Zf.j1] at H
       by_cases c25:x25_20=true
       ·subst c25
        rw [if_pos rfl] at H
        by_cases c26:x5_3.size + 2<=9223372036854775807
        ·rw [if_pos c26] at H
         have c26b0:=eq_true c26
         have c26b1:decide (x5_3.size + 2<=9223372036854775807)=true:=decide_eq_true c26
         try have c26b2:(9223372036854775807 < x5_3.size + 2)=False:=eq_false (Nat.not_lt.2 c26)
         obtain ⟨t609,A27,H⟩:=ob H
         by_cases c28:(x5_3 ++ (⟨#[48,46]⟩:ByteArray)).size + t609.size<=9223372036854775807
         ·rw [if_pos c28] at H
          have c28b0:=eq_true c28
          have c28b1:decide ((x5_3 ++ (⟨#[48,46]⟩:ByteArray)).size + t609.size<=9223372036854775807)=true:=decide_eq_true c28
          try have c28b2:(9223372036854775807 < (x5_3 ++ (⟨#[48,46]⟩:ByteArray)).size + t609.size)=False:=eq_false (Nat.not_lt.2 c28)
          try have c28b3:(9223372036854775807 < x5_3.size + 2 + t609.size)=False:=eq_false (Nat.not_lt.2 (by have q_:=c28;have l0_:(⟨#[48,46]⟩:ByteArray).size=2:=rfl;(try have h0_:=of_decide_eq_true c26b1);simp only [ByteArray.size_append,ByteArray.size_extract] at q_;omega))
          by_cases c29:((x5_3 ++ (⟨#[48,46]⟩:ByteArray)) ++ t609).size + t608.size<=9223372036854775807
          ·rw [if_pos c29] at H
           have c29b0:=eq_true c29
           have c29b1:decide (((x5_3 ++ (⟨#[48,46]⟩:ByteArray)) ++ t609).size + t608.size<=9223372036854775807)=true:=decide_eq_true c29
           try have c29b2:(9223372036854775807 < ((x5_3 ++ (⟨#[48,46]⟩:ByteArray)) ++ t609).size + t608.size)=False:=eq_false (Nat.not_lt.2 c29)
           try have c29b3:(9223372036854775807 < x5_3.size + 2 + t609.size + t608.size)=False:=eq_false (Nat.not_lt.2 (by have q_:=c29;have l0_:(⟨#[48,46]⟩:ByteArray).size=2:=rfl;(try have h0_:=of_decide_eq_true c26b1);(try have h1_:=of_decide_eq_true c28b1);simp only [ByteArray.size_append,ByteArray.size_extract] at q_;omega))
           obtain rfl:=Option.some.inj H
           go_wp2_with (first|(refine gL (some 36) Tryz.func119 #[.int .i64 (wrap64 (-(wrap64 ((t608.size:Int) + t606))))] (h:=?_);(with_reducible refine (Za7.calls kj20 (wrap64 (-(wrap64 ((t608.size:Int) + t606)))) t609 _ A27.out).mono ?_);rintro e w' ⟨rfl,⟨nd,rfl⟩⟩;refine ⟨_,rfl,?_⟩))
           go_ret
           exact ⟨pE,pB⟩
          ·rw [if_neg c29] at H
           exact absurd H (by simp)
         ·rw [if_neg c28] at H
          exact absurd H (by simp)
        ·rw [if_neg c26] at H
         exact absurd H (by simp)
       ·replace c25:=Bool.eq_false_iff.mpr c25
        subst c25
        rw [if_neg (show ¬ (false=true) by decide)] at H
        have HC30:=am H
        clear H
        go_upto_region 10 with (fail)
        go_cut [40] (fun v40 wc => ∃ (kq:Nat) (x40_29:Bool),v40=.bool x40_29/\Aside0 (Zf.j2 kq t608 x5_3 (wrap64 ((t608.size:Int) + t606)) x40_29=some r)/\Aside0 (kq<=kj20)/\Aside0 (Kd.R (Kd.int .i64) 3 wc w.heap.size (fun _=>True) (.slice Ao11 t603.length co11) t603)/\Aside0 (wc.heap[gb601]? = some (.cells #[.bool a0_0,(.slice A0_1 l0_1.length c0_1),.int .i64 a0_2] 24 (0,0)))/\Aside0 (wc.heap[gb607]? = some (.cells #[.bool t602,(.slice Ao11 t603.length co11),.int .i64 t606] 30 (0,0)))/\Aside0 (Below w.heap.size w wc))
        case first =>
         have H:=HC30.out
         clear HC30
         by_cases c31:(wrap64 ((t608.size:Int) + t606)) >= 1
         ·rw [if_pos c31] at H
          have c31b0:decide (1<=(wrap64 ((t608.size:Int) + t606)))=true:=decide_eq_true c31
          clear c31
          (first|rw [c31b0]|(simp only [Zcc,Zdc];rw [c31b0])|skip)
          by_cases c32:(wrap64 ((t608.size:Int) + t606))<=21
          ·rw [if_pos c32] at H
           have c32b0:decide ((wrap64 ((t608.size:Int) + t606))<=21)=true:=decide_eq_true c32
           clear c32
           have H':=am H
           clear H
           go_wp2
           go_meet
           case rel=>exact ⟨_,(decide ((wrap64 ((t608.size:Int) + t606)) < (t608.size:Int))),pR,H',⟨by have := HJ3.out;have := HJ20.out;first|omega|exact Nat.le_refl _⟩,⟨by refine rp ?_;exact HO_608001.out⟩,⟨Zc BK601.out pl⟩,⟨Zc BK607.out pl⟩,⟨pB⟩⟩
          ·rw [if_neg c32] at H
           have c32b0:decide ((wrap64 ((t608.size:Int) + t606))<=21)=false:=decide_eq_false c32
           clear c32
           have H':=am H
           clear H
           go_wp2
           go_meet
           case rel=>exact ⟨_,(false),pR,H',⟨by have := HJ3.out;have := HJ20.out;first|omega|exact Nat.le_refl _⟩,⟨by refine rp ?_;exact HO_608001.out⟩,⟨Zc BK601.out pl⟩,⟨Zc BK607.out pl⟩,⟨pB⟩⟩
         ·rw [if_neg c31] at H
          have c31b0:decide (1<=(wrap64 ((t608.size:Int) + t606)))=false:=decide_eq_false c31
          clear c31
          (first|rw [c31b0]|(simp only [Zcc,Zdc];rw [c31b0])|skip)
          have H':=am H
          clear H
          go_wp2
          go_meet
          case rel=>exact ⟨_,(false),pR,H',⟨by have := HJ3.out;have := HJ20.out;first|omega|exact Nat.le_refl _⟩,⟨by refine rp ?_;exact HO_608001.out⟩,⟨Zc BK601.out pl⟩,⟨Zc BK607.out pl⟩,⟨pB⟩⟩
        case rest =>
         clear HC30
         obtain ⟨kq,x40_29,rfl,HA,HJ29,HO_608001,BK601,BK607,HB⟩:=hcut
         cases kq with
         | zero=>exact absurd HA.out (by simp [Zf.j2])
         | succ kj29 =>
          have H:=HA.out
          clear HA
          simp only [Zf.j2] at H
          by_cases c33:x40_29=true
          ·subst c33
           rw [if_pos rfl] at H
           obtain ⟨ji34,hji34⟩:∃ j_:Int,(wrap64 ((t608.size:Int) + t606))=j_:=⟨_,rfl⟩
           replace H:(if 0<=(ji34) then (if (ji34)<=(t608.size:Int) then (if x5_3.size + (t608.extract 0 ((ji34):Int).toNat).size<=9223372036854775807 then (if (x5_3 ++ (t608.extract 0 ((ji34):Int).toNat)).size + 1<=9223372036854775807 then (if ((x5_3 ++ (t608.extract 0 ((ji34):Int).toNat)) ++ (⟨#[46]⟩:ByteArray)).size + (t608.extract ((ji34):Int).toNat t608.size).size<=9223372036854775807 then (some (((x5_3 ++ (t608.extract 0 ((ji34):Int).toNat)) ++ (⟨#[46]⟩:ByteArray)) ++ (t608.extract ((ji34):Int).toNat t608.size))) else (none)) else (none)) else (none)) else (none)) else (none))=some r:=by first|(rw [hji34] at H;exact H)|(simp only [hji34] at H ⊢;exact H)
           have hji34w:(IntKind.i64.wrap ((t608.size:Int) + t606))=ji34:=(Zcc _).trans hji34
           by_cases c35:0<=(ji34)
           ·rw [if_pos c35] at H
            have c35b0:=eq_true c35
            have c35b1:decide (0<=(ji34))=true:=decide_eq_true c35
            clear c35
            by_cases c36:(ji34)<=(t608.size:Int)
            ·rw [if_pos c36] at H
             have c36b0:=eq_true c36
             have c36b1:decide ((ji34)<=(t608.size:Int))=true:=decide_eq_true c36
             clear c36
             by_cases c37:x5_3.size + (t608.extract 0 ((ji34):Int).toNat).size<=9223372036854775807
             ·rw [if_pos c37] at H
              have c37b0:=eq_true c37
              have c37b1:decide (x5_3.size + (t608.extract 0 ((ji34):Int).toNat).size<=9223372036854775807)=true:=decide_eq_true c37
              try have c37b2:(9223372036854775807 < x5_3.size + (t608.extract 0 ((ji34):Int).toNat).size)=False:=eq_false (Nat.not_lt.2 c37)
              try have c37b3:(9223372036854775807 < x5_3.size + ((ji34):Int).toNat)=False:=eq_false (Nat.not_lt.2 (by have q_:=c37;(try have h0_:=of_decide_eq_true c35b1);(try have h1_:=of_decide_eq_true c36b1);simp only [ByteArray.size_append,ByteArray.size_extract] at q_;omega))
              by_cases c38:(x5_3 ++ (t608.extract 0 ((ji34):Int).toNat)).size + 1<=9223372036854775807
              ·rw [if_pos c38] at H
               have c38b0:=eq_true c38
               have c38b1:decide ((x5_3 ++ (t608.extract 0 ((ji34):Int).toNat)).size + 1<=9223372036854775807)=true:=decide_eq_true c38
               try have c38b2:(9223372036854775807 < (x5_3 ++ (t608.extract 0 ((ji34):Int).toNat)).size + 1)=False:=eq_false (Nat.not_lt.2 c38)
               try have c38b3:(9223372036854775807 < x5_3.size + ((ji34):Int).toNat + 1)=False:=eq_false (Nat.not_lt.2 (by have q_:=c38;(try have h0_:=of_decide_eq_true c35b1);(try have h1_:=of_decide_eq_true c36b1);(try have h2_:=of_decide_eq_true c37b1);simp only [ByteArray.size_append,ByteArray.size_extract] at q_;omega))
               have c39b0:=eq_true (of_decide_eq_true pQ:0<=(ji34))
               have c40b0:=eq_true (of_decide_eq_true pQ:(ji34)<=(t608.size:Int))
               by_cases c41:((x5_3 ++ (t608.extract 0 ((ji34):Int).toNat)) ++ (⟨#[46]⟩:ByteArray)).size + (t608.extract ((ji34):Int).toNat t608.size).size<=9223372036854775807
               ·rw [if_pos c41] at H
                have c41b0:=eq_true c41
                have c41b1:decide (((x5_3 ++ (t608.extract 0 ((ji34):Int).toNat)) ++ (⟨#[46]⟩:ByteArray)).size + (t608.extract ((ji34):Int).toNat t608.size).size<=9223372036854775807)=true:=decide_eq_true c41
                try have c41b2:(9223372036854775807 < ((x5_3 ++ (t608.extract 0 ((ji34):Int).toNat)) ++ (⟨#[46]⟩:ByteArray)).size + (t608.extract ((ji34):Int).toNat t608.size).size)=False:=eq_false (Nat.not_lt.2 c41)
                try have c41b3:(9223372036854775807 < x5_3.size + ((ji34):Int).toNat + 1 + (t608.size - ((ji34):Int).toNat))=False:=eq_false (Nat.not_lt.2 (by have q_:=c41;have l0_:(⟨#[46]⟩:ByteArray).size=1:=rfl;(try have h0_:=of_decide_eq_true c35b1);(try have h1_:=of_decide_eq_true c36b1);(try have h2_:=of_decide_eq_true c37b1);(try have h3_:=of_decide_eq_true c38b1);simp only [ByteArray.size_append,ByteArray.size_extract] at q_;omega))
                obtain rfl:=Option.some.inj H
                try go_wp2
                replace HO_608001:=am (Kd.Zei HO_608001.out)
                replace BK601:=am (Zba BK601.out)
                replace BK607:=am (Zba BK607.out)
                replace HB:=am (Zaz HB.out)
                refine start_ (n:=11) (S:=fun w'=>True) (ds:=[]) #[false,false,false,false,false,false,false,false,false,false,false] (by kernel_rfl) rfl rfl trivial (fun hHeld=>?_);refine Zcn Zf.tab11 Zf.bits11 (fun HT_ HW_=>?_)
                generalize wc.drew=w42 at HO_608001 BK601 BK607 HB hHeld ⊢
                refine pu 0 (some 53) #[true,false,false,false,false,false,false,false,false,false,false] (h:=?_)
                refine pu 1 (some 54) #[true,true,false,false,false,false,false,false,false,false,false] (h:=?_)
                refine pu 2 (some 55) #[true,true,true,false,false,false,false,false,false,false,false] (h:=?_)
                refine pu 3 (some 56) #[true,true,true,true,false,false,false,false,false,false,false] (h:=?_)
                refine pu 4 (some 57) #[true,true,true,true,true,false,false,false,false,false,false] (h:=?_)
                refine pu 5 (some 58) #[true,true,true,true,true,true,false,false,false,false,false] (h:=?_)
                refine pu 6 (some 59) #[true,true,true,true,true,true,true,false,false,false,false] (h:=?_)
                refine pu 7 (some 60) #[true,true,true,true,true,true,true,true,false,false,false] (h:=?_)
                refine pu 8 (some 61) #[true,true,true,true,true,true,true,true,true,false,false] (h:=?_)
                refine pu 9 (some 62) #[true,true,true,true,true,true,true,true,true,true,false] (h:=?_)
                refine pu 10 (some 2) #[true,true,true,true,true,true,true,true,true,true,true] (h:=?_)
                refine done_ (Zdl HT_.out (by kernel_rfl)) ?_
                try go_wp2
                go_ret
                exact ⟨by first|rfl|(simp [Zal,Zam] <;> rfl)|(simp only [<- hji34];first|rfl|(simp [Zal,Zam] <;> rfl))|(simp [*,Zal,Zam] <;> rfl),pB⟩
               ·rw [if_neg c41] at H
                exact absurd H (by simp)
              ·rw [if_neg c38] at H
               exact absurd H (by simp)
             ·rw [if_neg c37] at H
              exact absurd H (by simp)
            ·rw [if_neg c36] at H
             exact absurd H (by simp)
           ·rw [if_neg c35] at H
            exact absurd H (by simp)
          ·replace c33:=Bool.eq_false_iff.mpr c33
           subst c33
           rw [if_neg (show ¬ (false=true) by decide)] at H
           by_cases c43:(wrap64 ((t608.size:Int) + t606)) >= 1
           ·rw [if_pos c43] at H
            have c43b0:decide (1<=(wrap64 ((t608.size:Int) + t606)))=true:=decide_eq_true c43
            clear c43
            by_cases c44:(wrap64 ((t608.size:Int) + t606))<=21
            ·rw [if_pos c44] at H
             have c44b0:decide ((wrap64 ((t608.size:Int) + t606))<=21)=true:=decide_eq_true c44
             clear c44
             by_cases c45:x5_3.size + t608.size<=9223372036854775807
             ·rw [if_pos c45] at H
              have c45b0:=eq_true c45
              have c45b1:decide (x5_3.size + t608.size<=9223372036854775807)=true:=decide_eq_true c45
              try have c45b2:(9223372036854775807 < x5_3.size + t608.size)=False:=eq_false (Nat.not_lt.2 c45)
              obtain ⟨t610,A46,H⟩:=ob H
              by_cases c47:(x5_3 ++ t608).size + t610.size<=9223372036854775807
              ·rw [if_pos c47] at H
               have c47b0:=eq_true c47
               have c47b1:decide ((x5_3 ++ t608).size + t610.size<=9223372036854775807)=true:=decide_eq_true c47
               try have c47b2:(9223372036854775807 < (x5_3 ++ t608).size + t610.size)=False:=eq_false (Nat.not_lt.2 c47)
               try have c47b3:(9223372036854775807 < x5_3.size + t608.size + t610.size)=False:=eq_false (Nat.not_lt.2 (by have q_:=c47;(try have h0_:=of_decide_eq_true c45b1);simp only [ByteArray.size_append,ByteArray.size_extract] at q_;omega))
               obtain rfl:=Option.some.inj H
               go_wp2_with (first|(refine gL (some 77) Tryz.func119 #[.int .i64 (wrap64 ((wrap64 ((t608.size:Int) + t606)) - (t608.size:Int)))] (h:=?_);(with_reducible refine (Za7.calls kj29 (wrap64 ((wrap64 ((t608.size:Int) + t606)) - (t608.size:Int))) t610 _ A46.out).mono ?_);rintro e w' ⟨rfl,⟨nd,rfl⟩⟩;refine ⟨_,rfl,?_⟩))
               go_ret
               exact ⟨pE,pB⟩
              ·rw [if_neg c47] at H
               exact absurd H (by simp)
             ·rw [if_neg c45] at H
              exact absurd H (by simp)
            ·rw [if_neg c44] at H
             have c44b0:decide ((wrap64 ((t608.size:Int) + t606))<=21)=false:=decide_eq_false c44
             clear c44
             have H':=am H
             clear H
             go_wp2
             go_meet
             case rel=>exact ⟨_,H',⟨by have := HJ3.out;have := HJ20.out;have := HJ29.out;first|omega|exact Nat.le_refl _⟩,⟨by refine rp ?_;exact HO_608001.out⟩,⟨Zc BK601.out pl⟩,⟨Zc BK607.out pl⟩,⟨pB⟩⟩
           ·rw [if_neg c43] at H
            have c43b0:decide (1<=(wrap64 ((t608.size:Int) + t606)))=false:=decide_eq_false c43
            clear c43
            have H':=am H
            clear H
            go_wp2
            go_meet
            case rel=>exact ⟨_,H',⟨by have := HJ3.out;have := HJ20.out;have := HJ29.out;first|omega|exact Nat.le_refl _⟩,⟨by refine rp ?_;exact HO_608001.out⟩,⟨Zc BK601.out pl⟩,⟨Zc BK607.out pl⟩,⟨pB⟩⟩
   case rest =>
    clear HC15
    obtain ⟨kq,HA,HJ14,HO_608001,BK601,BK607,HB⟩:=hcut
    cases kq with
    | zero=>exact absurd HA.out (by simp [Zf.j3])
    | succ kj14 =>
     have H:=HA.out
     clear HA
     simp only [Zf.j3] at H
     have HC48:=am H
     clear H
     go_upto_if 82 with (fail)
     go_cut [6,7] (fun v6 v7 wc => ∃ (kq:Nat) (x6_47:Int) (x7_47:ByteArray),v6=.int .i64 x6_47/\v7=.string x7_47/\Aside0 (Zf.j4 kq t608 x5_3 x6_47 x7_47=some r)/\Aside0 (kq<=kj14)/\Aside0 (Kd.R (Kd.int .i64) 3 wc w.heap.size (fun _=>True) (.slice Ao11 t603.length co11) t603)/\Aside0 (wc.heap[gb601]? = some (.cells #[.bool a0_0,(.slice A0_1 l0_1.length c0_1),.int .i64 a0_2] 24 (0,0)))/\Aside0 (wc.heap[gb607]? = some (.cells #[.bool t602,(.slice Ao11 t603.length co11),.int .i64 t606] 30 (0,0)))/\Aside0 (Below w.heap.size w wc))
     case first =>
      have H:=HC48.out
      clear HC48
      by_cases c49:(wrap64 ((wrap64 ((t608.size:Int) + t606)) - 1)) < 0
      ·rw [if_pos c49] at H
       have c49b0:decide ((wrap64 ((wrap64 ((t608.size:Int) + t606)) - 1)) < 0)=true:=decide_eq_true c49
       clear c49
       (first|rw [c49b0]|(simp only [Zcc,Zdc];rw [c49b0])|skip)
       have H':=am H
       clear H
       go_wp2
       go_meet
       case rel=>exact ⟨_,(wrap64 (-(wrap64 ((wrap64 ((t608.size:Int) + t606)) - 1)))),((⟨#[101,45]⟩:ByteArray)),pR,pR,H',⟨by have := HJ3.out;have := HJ14.out;first|omega|exact Nat.le_refl _⟩,⟨by refine rp ?_;exact HO_608001.out⟩,⟨Zc BK601.out pl⟩,⟨Zc BK607.out pl⟩,⟨pB⟩⟩
      ·rw [if_neg c49] at H
       have c49b0:decide ((wrap64 ((wrap64 ((t608.size:Int) + t606)) - 1)) < 0)=false:=decide_eq_false c49
       clear c49
       (first|rw [c49b0]|(simp only [Zcc,Zdc];rw [c49b0])|skip)
       have H':=am H
       clear H
       go_wp2
       go_meet
       case rel=>exact ⟨_,(wrap64 ((wrap64 ((t608.size:Int) + t606)) - 1)),((⟨#[101,43]⟩:ByteArray)),pR,pR,H',⟨by have := HJ3.out;have := HJ14.out;first|omega|exact Nat.le_refl _⟩,⟨by refine rp ?_;exact HO_608001.out⟩,⟨Zc BK601.out pl⟩,⟨Zc BK607.out pl⟩,⟨pB⟩⟩
     case rest =>
      clear HC48
      obtain ⟨kq,x6_47,x7_47,rfl,rfl,HA,HJ47,HO_608001,BK601,BK607,HB⟩:=hcut
      cases kq with
      | zero=>exact absurd HA.out (by simp [Zf.j4])
      | succ kj47 =>
       have H:=HA.out
       clear HA
       simp only [Zf.j4] at H
       by_cases c50:(t608.size:Int) > 1
       ·rw [if_pos c50] at H
        have c50b0:decide (1 < (t608.size:Int))=true:=decide_eq_true c50
        have c50b1:decide (1 < t608.size)=true:=decide_eq_true (by omega)
        clear c50
        by_cases c51:0<=1
        ·rw [if_pos c51] at H
         have c51b0:=eq_true c51
         have c51b1:decide (0<=1)=true:=decide_eq_true c51
         clear c51
         by_cases c52:1<=(t608.size:Int)
         ·rw [if_pos c52] at H
          have c52b0:=eq_true c52
          have c52b1:decide (1<=(t608.size:Int))=true:=decide_eq_true c52
          clear c52
          by_cases c53:x5_3.size + (t608.extract 0 1).size<=9223372036854775807
          ·rw [if_pos c53] at H
           have c53b0:=eq_true c53
           have c53b1:decide (x5_3.size + (t608.extract 0 1).size<=9223372036854775807)=true:=decide_eq_true c53
           try have c53b2:(9223372036854775807 < x5_3.size + (t608.extract 0 1).size)=False:=eq_false (Nat.not_lt.2 c53)
           try have c53b3:(9223372036854775807 < x5_3.size + 1)=False:=eq_false (Nat.not_lt.2 (by have q_:=c53;(try have h0_:=of_decide_eq_true c51b1);(try have h1_:=of_decide_eq_true c52b1);simp only [ByteArray.size_append,ByteArray.size_extract] at q_;omega))
           try have c53b4:(9223372036854775807 < x5_3.size + min 1 t608.size)=False:=eq_false (Nat.not_lt.2 (by have q_:=c53;(try have h0_:=of_decide_eq_true c51b1);(try have h1_:=of_decide_eq_true c52b1);simp only [ByteArray.size_append,ByteArray.size_extract] at q_;omega))
           by_cases c54:(x5_3 ++ (t608.extract 0 1)).size + 1<=9223372036854775807
           ·rw [if_pos c54] at H
            have c54b0:=eq_true c54
            have c54b1:decide ((x5_3 ++ (t608.extract 0 1)).size + 1<=9223372036854775807)=true:=decide_eq_true c54
            try have c54b2:(9223372036854775807 < (x5_3 ++ (t608.extract 0 1)).size + 1)=False:=eq_false (Nat.not_lt.2 c54)
            try have c54b3:(9223372036854775807 < x5_3.size + 1 + 1)=False:=eq_false (Nat.not_lt.2 (by have q_:=c54;(try have h0_:=of_decide_eq_true c51b1);(try have h1_:=of_decide_eq_true c52b1);(try have h2_:=of_decide_eq_true c53b1);simp only [ByteArray.size_append,ByteArray.size_extract] at q_;omega))
            try have c54b4:(9223372036854775807 < x5_3.size + min 1 t608.size + 1)=False:=eq_false (Nat.not_lt.2 (by have q_:=c54;(try have h0_:=of_decide_eq_true c51b1);(try have h1_:=of_decide_eq_true c52b1);(try have h2_:=of_decide_eq_true c53b1);simp only [ByteArray.size_append,ByteArray.size_extract] at q_;omega))
            have c55b0:=eq_true (of_decide_eq_true pQ:1<=(t608.size:Int))
            by_cases c56:((x5_3 ++ (t608.extract 0 1)) ++ (⟨#[46]⟩:ByteArray)).size + (t608.extract 1 t608.size).size<=9223372036854775807
            ·rw [if_pos c56] at H
             have c56b0:=eq_true c56
             have c56b1:decide (((x5_3 ++ (t608.extract 0 1)) ++ (⟨#[46]⟩:ByteArray)).size + (t608.extract 1 t608.size).size<=9223372036854775807)=true:=decide_eq_true c56
             try have c56b2:(9223372036854775807 < ((x5_3 ++ (t608.extract 0 1)) ++ (⟨#[46]⟩:ByteArray)).size + (t608.extract 1 t608.size).size)=False:=eq_false (Nat.not_lt.2 c56)
             try have c56b3:(9223372036854775807 < x5_3.size + 1 + 1 + (t608.size - 1))=False:=eq_false (Nat.not_lt.2 (by have q_:=c56;have l0_:(⟨#[46]⟩:ByteArray).size=1:=rfl;(try have h0_:=of_decide_eq_true c51b1);(try have h1_:=of_decide_eq_true c52b1);(try have h2_:=of_decide_eq_true c53b1);(try have h3_:=of_decide_eq_true c54b1);simp only [ByteArray.size_append,ByteArray.size_extract] at q_;omega))
             try have c56b4:(9223372036854775807 < x5_3.size + min 1 t608.size + 1 + (t608.size - 1))=False:=eq_false (Nat.not_lt.2 (by have q_:=c56;have l0_:(⟨#[46]⟩:ByteArray).size=1:=rfl;(try have h0_:=of_decide_eq_true c51b1);(try have h1_:=of_decide_eq_true c52b1);(try have h2_:=of_decide_eq_true c53b1);(try have h3_:=of_decide_eq_true c54b1);simp only [ByteArray.size_append,ByteArray.size_extract] at q_;omega))
             by_cases c57:(((x5_3 ++ (t608.extract 0 1)) ++ (⟨#[46]⟩:ByteArray)) ++ (t608.extract 1 t608.size)).size + x7_47.size<=9223372036854775807
             ·rw [if_pos c57] at H
              have c57b0:=eq_true c57
              have c57b1:decide ((((x5_3 ++ (t608.extract 0 1)) ++ (⟨#[46]⟩:ByteArray)) ++ (t608.extract 1 t608.size)).size + x7_47.size<=9223372036854775807)=true:=decide_eq_true c57
              try have c57b2:(9223372036854775807 < (((x5_3 ++ (t608.extract 0 1)) ++ (⟨#[46]⟩:ByteArray)) ++ (t608.extract 1 t608.size)).size + x7_47.size)=False:=eq_false (Nat.not_lt.2 c57)
              try have c57b3:(9223372036854775807 < x5_3.size + 1 + 1 + ((t608.size - 1)) + x7_47.size)=False:=eq_false (Nat.not_lt.2 (by have q_:=c57;have l0_:(⟨#[46]⟩:ByteArray).size=1:=rfl;(try have h0_:=of_decide_eq_true c51b1);(try have h1_:=of_decide_eq_true c52b1);(try have h2_:=of_decide_eq_true c53b1);(try have h3_:=of_decide_eq_true c54b1);(try have h4_:=of_decide_eq_true c56b1);simp only [ByteArray.size_append,ByteArray.size_extract] at q_;omega))
              try have c57b4:(9223372036854775807 < x5_3.size + min 1 t608.size + 1 + ((t608.size - 1)) + x7_47.size)=False:=eq_false (Nat.not_lt.2 (by have q_:=c57;have l0_:(⟨#[46]⟩:ByteArray).size=1:=rfl;(try have h0_:=of_decide_eq_true c51b1);(try have h1_:=of_decide_eq_true c52b1);(try have h2_:=of_decide_eq_true c53b1);(try have h3_:=of_decide_eq_true c54b1);(try have h4_:=of_decide_eq_true c56b1);simp only [ByteArray.size_append,ByteArray.size_extract] at q_;omega))
              obtain ⟨t611,A58,H⟩:=ob H
              by_cases c59:((((x5_3 ++ (t608.extract 0 1)) ++ (⟨#[46]⟩:ByteArray)) ++ (t608.extract 1 t608.size)) ++ x7_47).size + t611.size<=9223372036854775807
              ·rw [if_pos c59] at H
               have c59b0:=eq_true c59
               have c59b1:decide (((((x5_3 ++ (t608.extract 0 1)) ++ (⟨#[46]⟩:ByteArray)) ++ (t608.extract 1 t608.size)) ++ x7_47).size + t611.size<=9223372036854775807)=true:=decide_eq_true c59
               try have c59b2:(9223372036854775807 < ((((x5_3 ++ (t608.extract 0 1)) ++ (⟨#[46]⟩:ByteArray)) ++ (t608.extract 1 t608.size)) ++ x7_47).size + t611.size)=False:=eq_false (Nat.not_lt.2 c59)
               try have c59b3:(9223372036854775807 < x5_3.size + 1 + 1 + ((t608.size - 1)) + x7_47.size + t611.size)=False:=eq_false (Nat.not_lt.2 (by have q_:=c59;have l0_:(⟨#[46]⟩:ByteArray).size=1:=rfl;(try have h0_:=of_decide_eq_true c51b1);(try have h1_:=of_decide_eq_true c52b1);(try have h2_:=of_decide_eq_true c53b1);(try have h3_:=of_decide_eq_true c54b1);(try have h4_:=of_decide_eq_true c56b1);(try have h5_:=of_decide_eq_true c57b1);simp only [ByteArray.size_append,ByteArray.size_extract] at q_;omega))
               try have c59b4:(9223372036854775807 < x5_3.size + min 1 t608.size + 1 + ((t608.size - 1)) + x7_47.size + t611.size)=False:=eq_false (Nat.not_lt.2 (by have q_:=c59;have l0_:(⟨#[46]⟩:ByteArray).size=1:=rfl;(try have h0_:=of_decide_eq_true c51b1);(try have h1_:=of_decide_eq_true c52b1);(try have h2_:=of_decide_eq_true c53b1);(try have h3_:=of_decide_eq_true c54b1);(try have h4_:=of_decide_eq_true c56b1);(try have h5_:=of_decide_eq_true c57b1);simp only [ByteArray.size_append,ByteArray.size_extract] at q_;omega))
               obtain rfl:=Option.some.inj H
               try go_wp2
               replace HO_608001:=am (Kd.Zei HO_608001.out)
               replace BK601:=am (Zba BK601.out)
               replace BK607:=am (Zba BK607.out)
               replace HB:=am (Zaz HB.out)
               refine start_ (n:=14) (S:=fun w'=>True) (ds:=[]) #[false,false,false,false,false,false,false,false,false,false,false,false,false,false] (by kernel_rfl) rfl rfl trivial (fun hHeld=>?_);refine Zcn Zf.tab19 Zf.bits19 (fun HT_ HW_=>?_)
               generalize wc.drew=w60 at HO_608001 BK601 BK607 HB hHeld ⊢
               refine pu 0 (some 88) #[true,false,false,false,false,false,false,false,false,false,false,false,false,false] (h:=?_)
               refine pu 1 (some 89) #[true,true,false,false,false,false,false,false,false,false,false,false,false,false] (h:=?_)
               refine pu 2 (some 90) #[true,true,true,false,false,false,false,false,false,false,false,false,false,false] (h:=?_)
               refine pu 3 (some 91) #[true,true,true,true,false,false,false,false,false,false,false,false,false,false] (h:=?_)
               refine pu 4 (some 92) #[true,true,true,true,true,false,false,false,false,false,false,false,false,false] (h:=?_)
               refine pu 5 (some 93) #[true,true,true,true,true,true,false,false,false,false,false,false,false,false] (h:=?_)
               refine pu 6 (some 94) #[true,true,true,true,true,true,true,false,false,false,false,false,false,false] (h:=?_)
               refine pu 7 (some 95) #[true,true,true,true,true,true,true,true,false,false,false,false,false,false] (h:=?_)
               refine pu 8 (some 96) #[true,true,true,true,true,true,true,true,true,false,false,false,false,false] (h:=?_)
               refine pu 9 (some 97) #[true,true,true,true,true,true,true,true,true,true,false,false,false,false] (h:=?_)
               refine pu 10 (some 98) #[true,true,true,true,true,true,true,true,true,true,true,false,false,false] (h:=?_)
               refine one_ (i:=11) (N:=some 99) #[true,true,true,true,true,true,true,true,true,true,true,true,false,false] rfl rfl (Zbx HT_.out (by kernel_rfl)) (by decide) (fun K hK=>?_)
               refine goes_ Tryz.func120 (by kernel_rfl) rfl #[.int .i64 x6_47] (by rfl) rfl rfl pA ?_
               with_reducible refine (Zbd.calls kj47 x6_47 t611 _ A58.out).mono ?_
               rintro e w61 ⟨rfl,hb⟩
               refine ⟨_,rfl,?_⟩
               replace HO_608001:=rbl HO_608001 hb
               replace BK601:=bb BK601 hb
               replace BK607:=bb BK607 hb
               replace HB:=bS hb
               refine hK.out _ _ trivial (fun hHeld=>?_)
               clear hK K
               refine norm_ (a':=?_) ?_ ?_
               rotate_left
               ·show Act.put _ (some 99) _=_
                exact pP
               refine pu 12 (some 100) #[true,true,true,true,true,true,true,true,true,true,true,true,true,false] (h:=?_)
               refine pu 13 (some 2) #[true,true,true,true,true,true,true,true,true,true,true,true,true,true] (h:=?_)
               refine done_ (Zdl HT_.out (by kernel_rfl)) ?_
               try go_wp2
               go_ret
               exact ⟨pE,pB⟩
              ·rw [if_neg c59] at H
               exact absurd H (by simp)
             ·rw [if_neg c57] at H
              exact absurd H (by simp)
            ·rw [if_neg c56] at H
             exact absurd H (by simp)
           ·rw [if_neg c54] at H
            exact absurd H (by simp)
          ·rw [if_neg c53] at H
           exact absurd H (by simp)
         ·rw [if_neg c52] at H
          exact absurd H (by simp)
        ·rw [if_neg c51] at H
         exact absurd H (by simp)
       ·rw [if_neg c50] at H
        have c50b0:decide (1 < (t608.size:Int))=false:=decide_eq_false c50
        have c50b1:decide (1 < t608.size)=false:=decide_eq_false (by omega)
        clear c50
        by_cases c62:x5_3.size + t608.size<=9223372036854775807
        ·rw [if_pos c62] at H
         have c62b0:=eq_true c62
         have c62b1:decide (x5_3.size + t608.size<=9223372036854775807)=true:=decide_eq_true c62
         try have c62b2:(9223372036854775807 < x5_3.size + t608.size)=False:=eq_false (Nat.not_lt.2 c62)
         by_cases c63:(x5_3 ++ t608).size + x7_47.size<=9223372036854775807
         ·rw [if_pos c63] at H
          have c63b0:=eq_true c63
          have c63b1:decide ((x5_3 ++ t608).size + x7_47.size<=9223372036854775807)=true:=decide_eq_true c63
          try have c63b2:(9223372036854775807 < (x5_3 ++ t608).size + x7_47.size)=False:=eq_false (Nat.not_lt.2 c63)
          try have c63b3:(9223372036854775807 < x5_3.size + t608.size + x7_47.size)=False:=eq_false (Nat.not_lt.2 (by have q_:=c63;(try have h0_:=of_decide_eq_true c62b1);simp only [ByteArray.size_append,ByteArray.size_extract] at q_;omega))
          obtain ⟨t612,A64,H⟩:=ob H
          by_cases c65:((x5_3 ++ t608) ++ x7_47).size + t612.size<=9223372036854775807
          ·rw [if_pos c65] at H
           have c65b0:=eq_true c65
           have c65b1:decide (((x5_3 ++ t608) ++ x7_47).size + t612.size<=9223372036854775807)=true:=decide_eq_true c65
           try have c65b2:(9223372036854775807 < ((x5_3 ++ t608) ++ x7_47).size + t612.size)=False:=eq_false (Nat.not_lt.2 c65)
           try have c65b3:(9223372036854775807 < x5_3.size + t608.size + x7_47.size + t612.size)=False:=eq_false (Nat.not_lt.2 (by have q_:=c65;(try have h0_:=of_decide_eq_true c62b1);(try have h1_:=of_decide_eq_true c63b1);simp only [ByteArray.size_append,ByteArray.size_extract] at q_;omega))
           obtain rfl:=Option.some.inj H
           go_wp2_with (first|(refine gL (some 107) Tryz.func120 #[.int .i64 x6_47] (h:=?_);(with_reducible refine (Zbd.calls kj47 x6_47 t612 _ A64.out).mono ?_);rintro e w66 ⟨rfl,hb⟩;refine ⟨_,rfl,?_⟩;replace HO_608001:=rbl HO_608001 hb;replace BK601:=bb BK601 hb;replace BK607:=bb BK607 hb;replace HB:=bS hb))
           go_ret
           exact ⟨pE,pB⟩
          ·rw [if_neg c65] at H
           exact absurd H (by simp)
         ·rw [if_neg c63] at H
          exact absurd H (by simp)
        ·rw [if_neg c62] at H
         exact absurd H (by simp)
def Zbj.f (k:Nat)  : Option (Bool):=(Zby.f k (⟨#[49]⟩:ByteArray)).bind fun bt613=>((Zby.f k (⟨#[51]⟩:ByteArray)).bind fun bt618=>((Zbq.f k bt613.1 bt613.2.1 bt613.2.2 bt618.1 bt618.2.1 bt618.2.2).bind fun bt623=>((Zby.f k (⟨#[52]⟩:ByteArray)).bind fun bt630=>((Zbg.f k bt630.1 bt630.2.1 bt630.2.2).bind fun bt635=>((Zbe.f bt623.2.2.2).bind fun t642=>((Zbe.f bt635.2.2.2).bind fun t643=>(if (wrap64 (t642 + t643))=0 then ((Zf.f k bt623.1 bt623.2.1 bt623.2.2.1).bind fun t644=>(if t644.toList=([48,46,51,51,51,51,51,51,51,51,51,51,51,51,51,51,51,51,51,51,51,51,51,51,51,51,51,51,51,51,51,51,51,51,51,51,51,51,51,51,51,51]:List UInt8) then ((Zf.f k bt635.1 bt635.2.1 bt635.2.2.1).bind fun t645=>(some (t645.toList == ([50]:List UInt8)))) else (some false))) else (some false))))))))
theorem Zbj.leaf {P:Prop} (h:P:=by
 go_enter Tryz.func16,Tryz.ntmps16
 go_wp2_with (first|(refine gL (some 6) Tryz.func62 #[.string (⟨#[49]⟩:ByteArray)] (h:=?_);(with_reducible refine (Zby.calls k (⟨#[49]⟩:ByteArray) t613 t614 t617 _ A1.out).mono ?_);rintro e w0z ⟨v1z,rfl,ho2z,hb⟩;refine ⟨_,rfl,?_⟩;have HO3z:=am (Kd.Zq ho2z (Zb pB));replace HB:=bS hb)|(refine gL (some 7) Tryz.func62 #[.string (⟨#[51]⟩:ByteArray)] (h:=?_);(with_reducible refine (Zby.calls k (⟨#[51]⟩:ByteArray) t618 t619 t622 _ A2.out).mono ?_);rintro e w4z ⟨v5z,rfl,ho2z,hb⟩;refine ⟨_,rfl,?_⟩;have HO6z:=am (Kd.Zq (Kd.Zv ho2z (Kd.R_lt (Kd.Za HO3z.out pl))) (Zb pB));replace HO3z:=reR HO3z ho2z hb;replace HB:=bS hb;obtain ⟨Ao7z,co8z,eo9z⟩:=Kd.Zm HO3z.out;subst eo9z;obtain ⟨Ao10z,co11z,eo12z⟩:=Kd.Zm HO6z.out;subst eo12z)|(refine gL (some 8) Tryz.func19 #[.agg #[.bool t613,.slice Ao7z t614.length co8z,.int .i64 t617],.agg #[.bool t618,.slice Ao10z t619.length co11z,.int .i64 t622]] (h:=?_);(with_reducible refine (Zbq.calls k t613 (fun k_=>some k_=(.slice Ao7z t614.length co8z:Value).ownBlock) _ _ t614 t617 t618 (fun k_=>some k_=(.slice Ao10z t619.length co11z:Value).ownBlock) _ _ t619 t622 t623 t624 t627 t628 _ ?side1 ?side2 A3.out).mono ?_);(case side1=>exact Kd.R_V (Kd.Zbr rfl (HO3z.out)));(case side2=>exact Kd.R_V (Kd.Zbr rfl (HO6z.out)));rintro e w13z ⟨v14z,rfl,ho2z,hb⟩;refine ⟨_,rfl,?_⟩;have HO15z:=am (Kd.Zq (Kd.Zv (Kd.Zv (Kd.Zi (ok':=fun k_=>True) ho2z (fun _ hk_=>trivial)) (Kd.R_lt (Kd.Za HO3z.out pl))) (Kd.R_lt (Kd.Za HO6z.out pl))) (Zb pB));replace HO3z:=reR HO3z ho2z hb;replace HO6z:=reR HO6z ho2z hb;replace HB:=bS hb)|((with_reducible refine gd 1 ?_);refine bx 1 #[.bool false,.slice none 0 0,.int .i64 0] 24 (h:=?_);intro gb16z hg w17z hbox hb;have BK18z:=am hbox;have GW19z:=gW hg;have GE20z:=gW hg;replace HO3z:=rbl HO3z hb;replace HO6z:=rbl HO6z hb;replace HO15z:=rbl HO15z hb;replace HB:=bS hb;clear hb hbox hg;obtain ⟨hcz21z,hcz22z,hcz23z,hfz24z,hfz25z,hfz26z⟩:=cEc BK18z.out;obtain ⟨Ao27z,co28z,eo29z⟩:=Kd.Zm HO15z.out;subst eo29z)|(refine gL (some 12) Tryz.func62 #[.string (⟨#[52]⟩:ByteArray)] (h:=?_);(with_reducible refine (Zby.calls k (⟨#[52]⟩:ByteArray) t630 t631 t634 _ A4.out).mono ?_);rintro e w30z ⟨v31z,rfl,ho2z,hb⟩;refine ⟨_,rfl,?_⟩;have HO32z:=am (Kd.Zq (Kd.Zv (Kd.Zv (Kd.Zv ho2z (Kd.R_lt (Kd.Za (z3 HO3z.out BK18z.out (by decide) (.bool t623) (.slice Ao27z t624.length co28z) (.int .i64 t627)) pl))) (Kd.R_lt (Kd.Za (z3 HO6z.out BK18z.out (by decide) (.bool t623) (.slice Ao27z t624.length co28z) (.int .i64 t627)) pl))) (Kd.R_lt (Kd.Za (z3 HO15z.out BK18z.out (by decide) (.bool t623) (.slice Ao27z t624.length co28z) (.int .i64 t627)) pl))) (Zb pB));replace HO3z:=am (Kd.Zco (Kd.Za (z3 HO3z.out BK18z.out (by decide) (.bool t623) (.slice Ao27z t624.length co28z) (.int .i64 t627)) pl) (Kd.Zat ho2z) hb);replace HO6z:=am (Kd.Zco (Kd.Za (z3 HO6z.out BK18z.out (by decide) (.bool t623) (.slice Ao27z t624.length co28z) (.int .i64 t627)) pl) (Kd.Zat ho2z) hb);replace HO15z:=am (Kd.Zco (Kd.Za (z3 HO15z.out BK18z.out (by decide) (.bool t623) (.slice Ao27z t624.length co28z) (.int .i64 t627)) pl) (Kd.Zat ho2z) hb);replace BK18z:=am (Zc (g:=gb16z) (o:=.cells #[.bool t623,.slice Ao27z t624.length co28z,.int .i64 t627] 24 (0,0)) (by exact p3 BK18z) hb);replace HB:=bS hb;obtain ⟨Ao33z,co34z,eo35z⟩:=Kd.Zm HO32z.out;subst eo35z)|(refine gL (some 13) Tryz.func26 #[.agg #[.bool t630,.slice Ao33z t631.length co34z,.int .i64 t634]] (h:=?_);(with_reducible refine (Zbg.calls k t630 _ _ t631 t634 t635 t636 t639 t640 _ ?side1 ?side2 A5.out).mono ?_);(case side1=>exact Kd.Zh (Kd.Zd HO32z.out).2.2 pl);(case side2=>exact (Kd.Zd HO32z.out).2.1);rintro e w36z ⟨v37z,rfl,ho2z,hb⟩;refine ⟨_,rfl,?_⟩;have HO38z:=am (Kd.Zq (Kd.Zv (Kd.Zv (Kd.Zv (Kd.Zv ho2z (Kd.R_lt (Kd.Za HO3z.out pl))) (Kd.R_lt (Kd.Za HO6z.out pl))) (Kd.R_lt (Kd.Za HO15z.out pl))) (Kd.R_lt (Kd.Za HO32z.out pl))) (Zb pB));replace HO3z:=reR HO3z ho2z hb;replace HO6z:=reR HO6z ho2z hb;replace HO15z:=reR HO15z ho2z hb;replace HO32z:=reR HO32z ho2z hb;replace BK18z:=bb BK18z hb;replace HB:=bS hb)|((with_reducible refine gd 3 ?_);refine bx 3 #[.bool false,.slice none 0 0,.int .i64 0] 24 (h:=?_);intro gb39z hg w40z hbox hb;have BK41z:=am hbox;have GW42z:=gW hg;have GE43z:=gW hg;have NB44z:=nL hg BK18z;have NB45z:=nG hg BK18z;replace HO3z:=rbl HO3z hb;replace HO6z:=rbl HO6z hb;replace HO15z:=rbl HO15z hb;replace HO32z:=rbl HO32z hb;replace HO38z:=rbl HO38z hb;replace BK18z:=bb BK18z hb;replace HB:=bS hb;clear hb hbox hg;have hnb46z:=NB45z.out;have hnc47z:=NB44z.out;obtain ⟨hcz48z,hcz49z,hcz50z,hfz51z,hfz52z,hfz53z⟩:=cEc BK41z.out;obtain ⟨Ao54z,co55z,eo56z⟩:=Kd.Zm HO38z.out;subst eo56z)|(refine gL (some 17) Tryz.func20 #[.int .i64 t628] (h:=?_);(with_reducible refine (Zbe.calls t628 t642 _ A6.out).mono ?_);rintro e w' ⟨rfl,⟨nd,rfl⟩⟩;refine ⟨_,rfl,?_⟩)|((have q_:=A9;clear q_);refine gL (some 19) Tryz.func20 #[.int .i64 t640] (h:=?_);(with_reducible refine (Zbe.calls t640 t643 _ A7.out).mono ?_);rintro e w' ⟨rfl,⟨nd,rfl⟩⟩;refine ⟨_,rfl,?_⟩;obtain ⟨hcz57z,hcz58z,hcz59z,hfz60z,hfz61z,hfz62z⟩:=cEc BK18z.out)|((have q_:=A11;clear q_);go_at_call 63;(with_reducible refine (Zf.calls k t623 _ _ t624 t627 t644 _ ?side1 ?side2 A9.out).mono ?_);(case side1=>refine (Kd.Zd (e:=85) (base:=w.heap.size) (ok:=fun k_=>((((True/\some k_ ≠ (.slice Ao7z t614.length co8z:Value).ownBlock)/\some k_ ≠ (.slice Ao10z t619.length co11z:Value).ownBlock)/\some k_ ≠ (.slice Ao33z t631.length co34z:Value).ownBlock)/\some k_ ≠ (.slice Ao54z t636.length co55z:Value).ownBlock)) (n:=t624.length) (c:=co28z) ?_).2.2;exact (Kd.Za (z3 HO15z.out BK41z.out (by decide) (.bool t635) (.slice Ao54z t636.length co55z) (.int .i64 t639)) pl));(case side2=>exact (Kd.Zd HO15z.out).2.1);rintro e w63z ⟨rfl,hb⟩;replace HO3z:=am (Kd.Za (Kd.Za (z3 HO3z.out BK41z.out (by decide) (.bool t635) (.slice Ao54z t636.length co55z) (.int .i64 t639)) pl) hb);replace HO6z:=am (Kd.Za (Kd.Za (z3 HO6z.out BK41z.out (by decide) (.bool t635) (.slice Ao54z t636.length co55z) (.int .i64 t639)) pl) hb);replace HO15z:=am (Kd.Za (Kd.Za (z3 HO15z.out BK41z.out (by decide) (.bool t635) (.slice Ao54z t636.length co55z) (.int .i64 t639)) pl) hb);replace HO32z:=am (Kd.Za (Kd.Za (z3 HO32z.out BK41z.out (by decide) (.bool t635) (.slice Ao54z t636.length co55z) (.int .i64 t639)) pl) hb);replace HO38z:=am (Kd.Za (Kd.Za (z3 HO38z.out BK41z.out (by decide) (.bool t635) (.slice Ao54z t636.length co55z) (.int .i64 t639)) pl) hb);replace BK18z:=bfb NB44z BK18z hb;replace BK41z:=am (Zc (g:=gb39z) (o:=.cells #[.bool t635,.slice Ao54z t636.length co55z,.int .i64 t639] 24 (0,0)) (by exact p3 BK41z) hb);replace HB:=bS hb;obtain ⟨hcz64z,hcz65z,hcz66z,hfz67z,hfz68z,hfz69z⟩:=cEc BK41z.out)|(go_at_call 63;(with_reducible refine (Zf.calls k t635 _ _ t636 t639 t645 _ ?side1 ?side2 A11.out).mono ?_);(case side1=>exact Kd.Zh (Kd.Zd HO38z.out).2.2 pl);(case side2=>exact (Kd.Zd HO38z.out).2.1);rintro e w70z ⟨rfl,hb⟩;replace HO3z:=rbl HO3z hb;replace HO6z:=rbl HO6z hb;replace HO15z:=rbl HO15z hb;replace HO32z:=rbl HO32z hb;replace HO38z:=rbl HO38z hb;replace BK18z:=bb BK18z hb;replace BK41z:=bb BK41z hb;replace HB:=bS hb)|((have q_:(t644.toList != ([48,46,51,51,51,51,51,51,51,51,51,51,51,51,51,51,51,51,51,51,51,51,51,51,51,51,51,51,51,51,51,51,51,51,51,51,51,51,51,51,51,51]:List UInt8))=true:=c10b1;clear q_);go_at_call 63;(with_reducible refine (Zf.calls k t623 _ _ t624 t627 t644 _ ?side1 ?side2 A9.out).mono ?_);(case side1=>refine (Kd.Zd (e:=85) (base:=w.heap.size) (ok:=fun k_=>((((True/\some k_ ≠ (.slice Ao7z t614.length co8z:Value).ownBlock)/\some k_ ≠ (.slice Ao10z t619.length co11z:Value).ownBlock)/\some k_ ≠ (.slice Ao33z t631.length co34z:Value).ownBlock)/\some k_ ≠ (.slice Ao54z t636.length co55z:Value).ownBlock)) (n:=t624.length) (c:=co28z) ?_).2.2;exact (Kd.Za (z3 HO15z.out BK41z.out (by decide) (.bool t635) (.slice Ao54z t636.length co55z) (.int .i64 t639)) pl));(case side2=>exact (Kd.Zd HO15z.out).2.1);rintro e w63z ⟨rfl,hb⟩;replace HO3z:=am (Kd.Za (Kd.Za (z3 HO3z.out BK41z.out (by decide) (.bool t635) (.slice Ao54z t636.length co55z) (.int .i64 t639)) pl) hb);replace HO6z:=am (Kd.Za (Kd.Za (z3 HO6z.out BK41z.out (by decide) (.bool t635) (.slice Ao54z t636.length co55z) (.int .i64 t639)) pl) hb);replace HO15z:=am (Kd.Za (Kd.Za (z3 HO15z.out BK41z.out (by decide) (.bool t635) (.slice Ao54z t636.length co55z) (.int .i64 t639)) pl) hb);replace HO32z:=am (Kd.Za (Kd.Za (z3 HO32z.out BK41z.out (by decide) (.bool t635) (.slice Ao54z t636.length co55z) (.int .i64 t639)) pl) hb);replace HO38z:=am (Kd.Za (Kd.Za (z3 HO38z.out BK41z.out (by decide) (.bool t635) (.slice Ao54z t636.length co55z) (.int .i64 t639)) pl) hb);replace BK18z:=bfb NB44z BK18z hb;replace BK41z:=am (Zc (g:=gb39z) (o:=.cells #[.bool t635,.slice Ao54z t636.length co55z,.int .i64 t639] 24 (0,0)) (by exact p3 BK41z) hb);replace HB:=bS hb)|((have q_:((wrap64 (t642 + t643)) != 0)=true:=c8b1;clear q_);refine gL (some 19) Tryz.func20 #[.int .i64 t640] (h:=?_);(with_reducible refine (Zbe.calls t640 t643 _ A7.out).mono ?_);rintro e w' ⟨rfl,⟨nd,rfl⟩⟩;refine ⟨_,rfl,?_⟩))
 go_ret
 exact ⟨pE,pB⟩):P:=h
theorem Zbj.calls (k:Nat)  (r:Bool) (w:World) (h:Zbj.f k  = some r) :
  Calls Tryz.prog 16 #[] w fun e w'=>e=.returned (.bool r)/\Below w.heap.size w w':=by
 have hu24:=Tryz.underlying24
 have HB:=am (Below.refl w.heap.size w)
 have H:((Zby.f k (⟨#[49]⟩:ByteArray)).bind fun bt613=>((Zby.f k (⟨#[51]⟩:ByteArray)).bind fun bt618=>((Zbq.f k bt613.1 bt613.2.1 bt613.2.2 bt618.1 bt618.2.1 bt618.2.2).bind fun bt623=>((Zby.f k (⟨#[52]⟩:ByteArray)).bind fun bt630=>((Zbg.f k bt630.1 bt630.2.1 bt630.2.2).bind fun bt635=>((Zbe.f bt623.2.2.2).bind fun t642=>((Zbe.f bt635.2.2.2).bind fun t643=>(if (wrap64 (t642 + t643))=0 then ((Zf.f k bt623.1 bt623.2.1 bt623.2.2.1).bind fun t644=>(if t644.toList=([48,46,51,51,51,51,51,51,51,51,51,51,51,51,51,51,51,51,51,51,51,51,51,51,51,51,51,51,51,51,51,51,51,51,51,51,51,51,51,51,51,51]:List UInt8) then ((Zf.f k bt635.1 bt635.2.1 bt635.2.2.1).bind fun t645=>(some (t645.toList == ([50]:List UInt8)))) else (some false))) else (some false)))))))))=some r:=h
 clear h
 obtain ⟨⟨t613,t614,t617⟩,A1,H⟩:=ob H;(try dsimp only at H)
 obtain ⟨⟨t618,t619,t622⟩,A2,H⟩:=ob H;(try dsimp only at H)
 obtain ⟨⟨t623,t624,t627,t628⟩,A3,H⟩:=ob H;(try dsimp only at H)
 obtain ⟨⟨t630,t631,t634⟩,A4,H⟩:=ob H;(try dsimp only at H)
 obtain ⟨⟨t635,t636,t639,t640⟩,A5,H⟩:=ob H;(try dsimp only at H)
 obtain ⟨t642,A6,H⟩:=ob H
 obtain ⟨t643,A7,H⟩:=ob H
 by_cases c8:(wrap64 (t642 + t643))=0
 ·rw [if_pos c8] at H
  have c8b0:((wrap64 (t642 + t643)) == 0)=true:=beq_iff_eq.mpr c8
  have c8b1:((wrap64 (t642 + t643)) != 0)=false:=bne_eq_false_iff_eq.mpr c8
  clear c8
  obtain ⟨t644,A9,H⟩:=ob H
  by_cases c10:t644.toList=([48,46,51,51,51,51,51,51,51,51,51,51,51,51,51,51,51,51,51,51,51,51,51,51,51,51,51,51,51,51,51,51,51,51,51,51,51,51,51,51,51,51]:List UInt8)
  ·rw [if_pos c10] at H
   have c10b0:(t644.toList == ([48,46,51,51,51,51,51,51,51,51,51,51,51,51,51,51,51,51,51,51,51,51,51,51,51,51,51,51,51,51,51,51,51,51,51,51,51,51,51,51,51,51]:List UInt8))=true:=beq_iff_eq.mpr c10
   have c10b1:(t644.toList != ([48,46,51,51,51,51,51,51,51,51,51,51,51,51,51,51,51,51,51,51,51,51,51,51,51,51,51,51,51,51,51,51,51,51,51,51,51,51,51,51,51,51]:List UInt8))=false:=bne_eq_false_iff_eq.mpr c10
   clear c10
   obtain ⟨t645,A11,H⟩:=ob H
   obtain rfl:=Option.some.inj H
   exact Zbj.leaf
  ·rw [if_neg c10] at H
   have c10b0:(t644.toList == ([48,46,51,51,51,51,51,51,51,51,51,51,51,51,51,51,51,51,51,51,51,51,51,51,51,51,51,51,51,51,51,51,51,51,51,51,51,51,51,51,51,51]:List UInt8))=false:=beq_eq_false_iff_ne.mpr c10
   have c10b1:(t644.toList != ([48,46,51,51,51,51,51,51,51,51,51,51,51,51,51,51,51,51,51,51,51,51,51,51,51,51,51,51,51,51,51,51,51,51,51,51,51,51,51,51,51,51]:List UInt8))=true:=bne_iff_ne.mpr c10
   obtain rfl:=Option.some.inj H
   exact Zbj.leaf
 ·rw [if_neg c8] at H
  have c8b0:((wrap64 (t642 + t643)) == 0)=false:=beq_eq_false_iff_ne.mpr c8
  have c8b1:((wrap64 (t642 + t643)) != 0)=true:=bne_iff_ne.mpr c8
  obtain rfl:=Option.some.inj H
  exact Zbj.leaf
end YtjbjkmccfocikaaGreatDoor.B
end
section
namespace YtjbjkmccfocikaaGreatDoor.P.Nm
open Go.RowKit YtjbjkmccfocikaaGreatDoorW.PrintWords YtjbjkmccfocikaaGreatDoor.B YtjbjkmccfocikaaGreatDoor.P
theorem alive03:Tells (fun k=>Zbj.f k) true:=Tells.at 200 fun k=>by kernel_rfl
end YtjbjkmccfocikaaGreatDoor.P.Nm
end
end Go.Proofs
