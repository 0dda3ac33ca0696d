/- DecOwn: part 6 of 6: the texts B62 B63 B120 PLaw2 PAlive B121 B122 B125 B127 PLaw4 RDec RDecOwn of this claim, one behind the other. -/
import Derived.Test.YtjbjkmccfocikaaGreatDoorZDecOwn4
import Derived.KernelRfl
import Derived.ChangeSlices
import Derived.ChangeArms
import Derived.Lib.SmallJoins
import Derived.Carry
import Derived.SizedLaws
set_option linter.unusedVariables false
set_option linter.unusedSimpArgs false
set_option maxRecDepth 100000
set_option maxHeartbeats 8000000
namespace Go.Proofs
section
namespace YtjbjkmccfocikaaGreatDoor.B
open Go.RowKit YtjbjkmccfocikaaGreatDoorW.PrintWords YtjbjkmccfocikaaGreatDoorW.PrintLast YtjbjkmccfocikaaGreatDoorW.PrintMore
attribute [local go_sem] max2_int min2_int max_two min_two max_three min_three max_four min_four
mutual
def bolterref02_Parse.j0 : Nat->ByteArray->Bool->Option (Bool × List Int × Int × Int)
 | 0,_,_=>none
 | k + 1,x0,x18=>if x18 = true then (some (false,([] : List Int),0,32)) else (if (x0.size : Int) > 2000 then (some (false,([] : List Int),0,5)) else (if 0 < (x0.size : Int) then (bolterref02_Parse.l0 k x0 ([] : List Int) false 0 ((bt x0 0) == 45) 0) else (none)))
def bolterref02_Parse.l0 : Nat->ByteArray->List Int->Bool->Int->Bool->Int->Option (Bool × List Int × Int × Int)
 | 0,_,_,_,_,_,_=>none
 | k + 1,x0,x7,x8,x9,x544000,x544002=>if x9 < (x0.size : Int) then (if 0<=x9 then (if (bt x0 x9) = 101 then (bolterref02_Parse.j2 k x0 x7 x8 x9 false x544000 x544002) else (bolterref02_Parse.j2 k x0 x7 x8 x9 ((bt x0 x9) != 69) x544000 x544002)) else (none)) else (bolterref02_Parse.j2 k x0 x7 x8 x9 false x544000 x544002)
def bolterref02_Parse.j2 : Nat->ByteArray->List Int->Bool->Int->Bool->Bool->Int->Option (Bool × List Int × Int × Int)
 | 0,_,_,_,_,_,_,_=>none
 | k + 1,x0,x7,x8,x9,x52,x544000,x544002=>if x52 = true then (if 0<=x9 then (if x9 < (x0.size : Int) then (if (bt x0 x9) = 46 then (bolterref02_Parse.l0 k x0 x7 true (wrap64 (x9 + 1)) x544000 x544002) else (if (bt x0 x9) = 45 then (bolterref02_Parse.l0 k x0 x7 x8 (wrap64 (x9 + 1)) x544000 x544002) else ((some (([((bt x0 x9) - 48) % 256] : List Int) : List Int)).bind fun y544=>(if y544.length + x7.length < 17592186044416 then ((some (y544 ++ x7 : List Int)).bind fun y547=>(if x8 = true then (bolterref02_Parse.l0 k x0 y547 x8 (wrap64 (x9 + 1)) x544000 (wrap64 (x544002 - 1))) else (bolterref02_Parse.l0 k x0 y547 x8 (wrap64 (x9 + 1)) x544000 x544002))) else (none))))) else (none)) else (none)) else (if x9 < (x0.size : Int) then (bolterref02_Parse.l1 k x0 x7 (wrap64 (x9 + 1)) false 0 0 x544000 x544002) else ((bolterref02_Made.f k x544000 x7 x544002).bind fun bt562=>(some (bt562.1,bt562.2.1,bt562.2.2.1,bt562.2.2.2))))
def bolterref02_Parse.l1 : Nat->ByteArray->List Int->Int->Bool->Int->Int->Bool->Int->Option (Bool × List Int × Int × Int)
 | 0,_,_,_,_,_,_,_,_=>none
 | k + 1,x0,x7,x9,x10,x11,x12,x544000,x544002=>if x9 < (x0.size : Int) then (if 0<=x9 then (if (bt x0 x9) = 45 then (bolterref02_Parse.l1 k x0 x7 (wrap64 (x9 + 1)) true x11 x12 x544000 x544002) else (if (bt x0 x9) = 43 then (bolterref02_Parse.l1 k x0 x7 (wrap64 (x9 + 1)) x10 x11 x12 x544000 x544002) else (if x11 > 0 then (bolterref02_Parse.j4 k x0 x7 x9 x10 x11 x12 true x544000 x544002) else (bolterref02_Parse.j4 k x0 x7 x9 x10 x11 x12 ((bt x0 x9) != 48) x544000 x544002)))) else (none)) else (if x10 = true then ((bolterref02_Made.f k x544000 x7 (wrap64 (x544002 + (wrap64 (-x11))))).bind fun bt550=>(some (bt550.1,bt550.2.1,bt550.2.2.1,bt550.2.2.2))) else ((bolterref02_Made.f k x544000 x7 (wrap64 (x544002 + x11))).bind fun bt556=>(some (bt556.1,bt556.2.1,bt556.2.2.1,bt556.2.2.2))))
def bolterref02_Parse.j4 : Nat->ByteArray->List Int->Int->Bool->Int->Int->Bool->Bool->Int->Option (Bool × List Int × Int × Int)
 | 0,_,_,_,_,_,_,_,_,_=>none
 | k + 1,x0,x7,x9,x10,x11,x12,x107,x544000,x544002=>if x107 = true then (if (wrap64 (x12 + 1)) > 6 then (some (false,([] : List Int),0,52)) else (if 0<=x9 then (if x9 < (x0.size : Int) then (bolterref02_Parse.l1 k x0 x7 (wrap64 (x9 + 1)) x10 (wrap64 ((wrap64 (10 * x11)) + (((bt x0 x9) - 48) % 256))) (wrap64 (x12 + 1)) x544000 x544002) else (none)) else (none))) else (if x12 > 6 then (some (false,([] : List Int),0,52)) else (if 0<=x9 then (if x9 < (x0.size : Int) then (bolterref02_Parse.l1 k x0 x7 (wrap64 (x9 + 1)) x10 (wrap64 ((wrap64 (10 * x11)) + (((bt x0 x9) - 48) % 256))) x12 x544000 x544002) else (none)) else (none)))
end
def bolterref02_Parse.f (k : Nat) (a0 : ByteArray) : Option (Bool × List Int × Int × Int):=(bolterref02_Ends.f k a0 0).bind fun bt541=>(if bt541.2 = true then (bolterref02_Parse.j0 k a0 (bt541.1 != (a0.size : Int))) else (bolterref02_Parse.j0 k a0 true))
theorem bolterref02_Parse.calls (k : Nat) (a0 : ByteArray) (r1 : Bool) (r2 : List Int) (r3 : Int) (r4 : Int) (w : World) (h : bolterref02_Parse.f k a0 = some (r1,r2,r3,r4)) :
  Calls Tryz.prog 58 #[.string a0] w fun e w' => ∃ v1_ : Value,e = .returned (.tuple #[.agg #[.bool r1,v1_,.int .i64 r3],.int .i64 r4])/\Kd.R (Kd.int .u32) 85 w' w.heap.size (fun _=>True) v1_ r2/\Below w.heap.size w w':=by
 have hu24:=Tryz.underlying24
 have hu30:=Tryz.underlying30
 have HB:=am (Below.refl w.heap.size w)
 have H : ((bolterref02_Ends.f k a0 0).bind fun bt541=>(if bt541.2 = true then (bolterref02_Parse.j0 k a0 (bt541.1 != (a0.size : Int))) else (bolterref02_Parse.j0 k a0 true))) = some (r1,r2,r3,r4):=h
 clear h
 obtain ⟨⟨t541,t542⟩,A2,H⟩:=ob H; (try dsimp only at H)
 have HC3:=am H
 clear H
 go_enter Tryz.func58,Tryz.ntmps58
 go_upto_region 2 with (first | ((with_reducible refine gd 2 ?_); (try (refine gate_guard (by rfl) ?_; dsimp only)); refine bx 2 #[.bool false,.slice none 0 0,.int .i64 0] 24 (h:=?_); intro gb540 hg w4 hbox hb; have BK540:=am hbox; have GW540:=gW hg; have GE540:=gW hg; replace HB:=bS hb; clear hb hbox hg) | (refine gL (some 15) Tryz.func117 #[.string a0,.int .i64 0] (h:=?_); (with_reducible refine (bolterref02_Ends.calls k a0 0 t541 t542 _ A2.out).mono ?_); rintro e w' ⟨rfl,⟨nd,rfl⟩⟩; refine ⟨_,rfl,?_⟩))
 (try simp only [Act.put,List.setIfInBounds_toArray,List.set_cons_zero,List.set_cons_succ])
 go_cut [18] (fun v18 wc => ∃ (kq : Nat) (x18_2 : Bool),v18 = .bool x18_2/\Aside0 (bolterref02_Parse.j0 kq a0 x18_2 = some (r1,r2,r3,r4))/\Aside0 (kq<=k)/\Aside0 (wc.heap[gb540]? = some (.cells #[.bool false,(.slice none 0 0),.int .i64 0] 24 (0,0)))/\Aside0 (Below w.heap.size w wc))
 case first =>
  have H:=HC3.out
  clear HC3
  by_cases c5 : t542 = true
  ·subst c5
   rw [if_pos rfl] at H
   have H':=am H
   clear H
   go_wp2
   go_meet
   case rel=>exact ⟨_,((t541 != (a0.size : Int))),pR,H',⟨by first | omega | exact Nat.le_refl _⟩,⟨blk_below BK540.out pl⟩,⟨pB⟩⟩
  ·replace c5:=Bool.eq_false_iff.mpr c5
   subst c5
   rw [if_neg (show ¬ (false = true) by decide)] at H
   have H':=am H
   clear H
   go_wp2
   go_meet
   case rel=>exact ⟨_,(true),pR,H',⟨by first | omega | exact Nat.le_refl _⟩,⟨blk_below BK540.out pl⟩,⟨pB⟩⟩
 case rest =>
  clear HC3
  obtain ⟨kq,x18_2,rfl,HA,HJ2,BK540,HB⟩:=hcut
  cases kq with
  | zero=>exact absurd HA.out (by simp [bolterref02_Parse.j0])
  | succ kj2 =>
   have H:=HA.out
   clear HA
   simp only [bolterref02_Parse.j0] at H
   by_cases c6 : x18_2 = true
   ·subst c6
    rw [if_pos rfl] at H
    simp only [Option.some.injEq,Prod.mk.injEq] at H
    obtain ⟨rfl,rfl,rfl,rfl⟩:=H
    obtain ⟨hcz7_0,hcz7_1,hcz7_2,hfz7_0,hfz7_1,hfz7_2⟩:=cEc BK540.out
    go_wp2
    refine bodyPost_ret (results_ct rfl _ _ gb540 24 #[.bool false,.slice none 0 0,.int .i64 0] (0,0) _ rfl (by exact p3 BK540) Tryz.underlying24 rfl (by kernel_rfl)) rfl ?_
    exact ⟨_,pE,pN,pB⟩
   ·replace c6:=Bool.eq_false_iff.mpr c6
    subst c6
    rw [if_neg (show ¬ (false = true) by decide)] at H
    by_cases c8 : (a0.size : Int) > 2000
    ·rw [if_pos c8] at H
     have c8b0 : decide (2000 < (a0.size : Int)) = true:=decide_eq_true c8
     have c8b1 : decide (2000 < a0.size) = true:=decide_eq_true (by omega)
     clear c8
     simp only [Option.some.injEq,Prod.mk.injEq] at H
     obtain ⟨rfl,rfl,rfl,rfl⟩:=H
     obtain ⟨hcz9_0,hcz9_1,hcz9_2,hfz9_0,hfz9_1,hfz9_2⟩:=cEc BK540.out
     go_wp2
     refine bodyPost_ret (results_ct rfl _ _ gb540 24 #[.bool false,.slice none 0 0,.int .i64 0] (0,0) _ rfl (by exact p3 BK540) Tryz.underlying24 rfl (by kernel_rfl)) rfl ?_
     exact ⟨_,pE,pN,pB⟩
    ·rw [if_neg c8] at H
     have c8b0 : decide (2000 < (a0.size : Int)) = false:=decide_eq_false c8
     have c8b1 : decide (2000 < a0.size) = false:=decide_eq_false (by omega)
     clear c8
     by_cases c10 : 0 < (a0.size : Int)
     ·rw [if_pos c10] at H
      have c10b0 : decide (0 < (a0.size : Int)) = true:=decide_eq_true c10
      have c10b1 : decide (0 < a0.size) = true:=decide_eq_true (by omega)
      clear c10
      have H':=am H
      clear H
      have p11 : 0<=(0 : Int):=(by omega)
      have q11 : 0 < a0.size:=(by have : (0 : Int) < (a0.size : Int):=of_decide_eq_true pQ; omega)
      have hx11 : ∀ h : 0 < a0.size,((a0[0]'h).toNat : Int) = bt a0 0:=bt_at a0 0
      clear p11
      have qi11 : (0 < (a0.size : Int)) = True:=eq_true (of_decide_eq_true pQ)
      replace q11:=eq_true q11
      go_wp2_with (first | ((with_reducible refine gd 6 ?_); (try (refine gate_guard (by rfl) ?_; dsimp only)); refine bx 6 #[.bool false,.slice none 0 0,.int .i64 0] 30 (h:=?_); intro gb543 hg w12 hbox hb; have BK543:=am hbox; have GW543:=gW hg; have GE543:=gW hg; have NB540_543:=nL hg BK540; have NB543_540:=nG hg BK540; replace BK540:=bb BK540 hb; replace HB:=bS hb; clear hb hbox hg; have hnb13:=NB543_540.out; have hnc13:=NB540_543.out; obtain ⟨hcz14_0,hcz14_1,hcz14_2,hfz14_0,hfz14_1,hfz14_2⟩:=cEc BK543.out))
      go_loopg [7,8,9] kj2 (fun kq v7 v8 v9 w' => ∃ (x7_2 : List Int) (x8_2 : Bool) (x9_2 : Int) (x544002_2 : Int),v8 = .bool x8_2/\v9 = .int .i64 x9_2/\Aside0 (bolterref02_Parse.l0 kq a0 x7_2 x8_2 x9_2 ((bt a0 0) == 45) x544002_2 = some (r1,r2,r3,r4))/\Aside0 (kq<=kj2)/\Aside0 (Kd.R (Kd.int .i64) 3 w' w.heap.size (fun _=>True) v7 x7_2)/\Aside0 (w'.heap[gb540]? = some (.cells #[.bool false,(.slice none 0 0),.int .i64 0] 24 (0,0)))/\Aside0 (w'.heap[gb543]? = some (.cells #[.bool ((bt a0 0) == 45),(.slice none 0 0),.int .i64 x544002_2] 30 (0,0)))/\Aside0 (Below w.heap.size w w'))
      case atStart=>exact ⟨(([] : List Int)),(false),(0),(0),pR,pR,H',⟨Nat.le_refl _⟩,⟨pN⟩,⟨bf NB540_543.out BK540.out⟩,⟨by exact p3 BK543⟩,⟨pB⟩⟩
      case round =>
       clear H'
       obtain ⟨x7_2,x8_2,x9_2,x544002_2,rfl,rfl,HA,HK2,HO_7,BK540,BK543,HB⟩:=hrel
       cases gk with
       | zero=>exact absurd HA.out (by simp [bolterref02_Parse.l0])
       | succ k2 =>
        have H:=HA.out
        clear HA
        simp only [bolterref02_Parse.l0] at H
        have HC15:=am H
        clear H
        go_upto_region 10 with (fail)
        go_cut [52] (fun v52 wc => ∃ (kq : Nat) (x52_14 : Bool),v52 = .bool x52_14/\Aside0 (bolterref02_Parse.j2 kq a0 x7_2 x8_2 x9_2 x52_14 ((bt a0 0) == 45) x544002_2 = some (r1,r2,r3,r4))/\Aside0 (kq<=k2)/\Aside0 (Kd.R (Kd.int .i64) 3 wc w.heap.size (fun _=>True) u7 x7_2)/\Aside0 (wc.heap[gb540]? = some (.cells #[.bool false,(.slice none 0 0),.int .i64 0] 24 (0,0)))/\Aside0 (wc.heap[gb543]? = some (.cells #[.bool ((bt a0 0) == 45),(.slice none 0 0),.int .i64 x544002_2] 30 (0,0)))/\Aside0 (Below w.heap.size w wc))
        case first =>
         have H:=HC15.out
         clear HC15
         by_cases c16 : x9_2 < (a0.size : Int)
         ·rw [if_pos c16] at H
          have c16b0 : decide (x9_2 < (a0.size : Int)) = true:=decide_eq_true c16
          clear c16
          (first | rw [c16b0] | (simp only [i64_w,i32_w]; rw [c16b0]) | skip)
          by_cases c17 : 0<=x9_2
          ·rw [if_pos c17] at H
           have c17b0 : decide (0<=x9_2) = true:=decide_eq_true c17
           clear c17
           by_cases c19 : (bt a0 x9_2) = 101
           ·rw [if_pos c19] at H
            have c19b0 : ((bt a0 x9_2) == 101) = true:=beq_iff_eq.mpr c19
            have c19b1 : ((bt a0 x9_2) != 101) = false:=bne_eq_false_iff_eq.mpr c19
            clear c19
            have H':=am H
            clear H
            have p18 : 0<=(x9_2 : Int):=of_decide_eq_true pQ
            have q18 : x9_2 < (a0.size : Int):=of_decide_eq_true pQ
            have hx18:=bt_at a0 x9_2
            replace p18:=eq_true p18
            replace q18:=eq_true q18
            go_wp2
            go_meet
            case rel=>exact ⟨_,(false),pR,H',⟨by have := HJ2.out; have := HK2.out; first | omega | exact Nat.le_refl _⟩,⟨by refine rp ?_; exact HO_7.out⟩,⟨blk_below BK540.out pl⟩,⟨blk_below BK543.out pl⟩,⟨pB⟩⟩
           ·rw [if_neg c19] at H
            have c19b0 : ((bt a0 x9_2) == 101) = false:=beq_eq_false_iff_ne.mpr c19
            have c19b1 : ((bt a0 x9_2) != 101) = true:=bne_iff_ne.mpr c19
            have H':=am H
            clear H
            have p18 : 0<=(x9_2 : Int):=of_decide_eq_true pQ
            have q18 : x9_2 < (a0.size : Int):=of_decide_eq_true pQ
            have hx18:=bt_at a0 x9_2
            replace p18:=eq_true p18
            replace q18:=eq_true q18
            have p20 : 0<=(x9_2 : Int):=of_decide_eq_true pQ
            have q20 : x9_2 < (a0.size : Int):=of_decide_eq_true pQ
            have hx20:=bt_at a0 x9_2
            replace p20:=eq_true p20
            replace q20:=eq_true q20
            go_wp2
            go_meet
            case rel=>exact ⟨_,(((bt a0 x9_2) != 69)),pR,H',⟨by have := HJ2.out; have := HK2.out; first | omega | exact Nat.le_refl _⟩,⟨by refine rp ?_; exact HO_7.out⟩,⟨blk_below BK540.out pl⟩,⟨blk_below BK543.out pl⟩,⟨pB⟩⟩
          ·rw [if_neg c17] at H
           exact absurd H (by simp)
         ·rw [if_neg c16] at H
          have c16b0 : decide (x9_2 < (a0.size : Int)) = false:=decide_eq_false c16
          clear c16
          (first | rw [c16b0] | (simp only [i64_w,i32_w]; rw [c16b0]) | skip)
          have H':=am H
          clear H
          go_wp2
          go_meet
          case rel=>exact ⟨_,(false),pR,H',⟨by have := HJ2.out; have := HK2.out; first | omega | exact Nat.le_refl _⟩,⟨by refine rp ?_; exact HO_7.out⟩,⟨blk_below BK540.out pl⟩,⟨blk_below BK543.out pl⟩,⟨pB⟩⟩
        case rest =>
         clear HC15
         obtain ⟨kq,x52_14,rfl,HA,HJ14,HO_7,BK540,BK543,HB⟩:=hcut
         cases kq with
         | zero=>exact absurd HA.out (by simp [bolterref02_Parse.j2])
         | succ kj14 =>
          have H:=HA.out
          clear HA
          simp only [bolterref02_Parse.j2] at H
          by_cases c21 : x52_14 = true
          ·subst c21
           rw [if_pos rfl] at H
           by_cases c22 : 0<=x9_2
           ·rw [if_pos c22] at H
            have c22b0 : decide (0<=x9_2) = true:=decide_eq_true c22
            clear c22
            by_cases c23 : x9_2 < (a0.size : Int)
            ·rw [if_pos c23] at H
             have c23b0 : decide (x9_2 < (a0.size : Int)) = true:=decide_eq_true c23
             clear c23
             by_cases c25 : (bt a0 x9_2) = 46
             ·rw [if_pos c25] at H
              have c25b0 : ((bt a0 x9_2) == 46) = true:=beq_iff_eq.mpr c25
              have c25b1 : ((bt a0 x9_2) != 46) = false:=bne_eq_false_iff_eq.mpr c25
              clear c25
              have H':=am H
              clear H
              have p24 : 0<=(x9_2 : Int):=of_decide_eq_true pQ
              have q24 : x9_2 < (a0.size : Int):=of_decide_eq_true pQ
              have hx24:=bt_at a0 x9_2
              replace p24:=eq_true p24
              replace q24:=eq_true q24
              go_wp2
              go_roundg kj14
              case measure=>have := HJ2.out; have := HK2.out; have := HJ14.out; omega
              case rel=>exact ⟨(x7_2),(true),(wrap64 (x9_2 + 1)),(x544002_2),pR,pR,H',⟨by have := HJ2.out; have := HK2.out; have := HJ14.out; omega⟩,⟨by refine rp ?_; exact HO_7.out⟩,⟨blk_below BK540.out pl⟩,⟨blk_below BK543.out pl⟩,⟨pB⟩⟩
             ·rw [if_neg c25] at H
              have c25b0 : ((bt a0 x9_2) == 46) = false:=beq_eq_false_iff_ne.mpr c25
              have c25b1 : ((bt a0 x9_2) != 46) = true:=bne_iff_ne.mpr c25
              by_cases c27 : (bt a0 x9_2) = 45
              ·rw [if_pos c27] at H
               have c27b0 : ((bt a0 x9_2) == 45) = true:=beq_iff_eq.mpr c27
               have c27b1 : ((bt a0 x9_2) != 45) = false:=bne_eq_false_iff_eq.mpr c27
               clear c27
               have H':=am H
               clear H
               have p24 : 0<=(x9_2 : Int):=of_decide_eq_true pQ
               have q24 : x9_2 < (a0.size : Int):=of_decide_eq_true pQ
               have hx24:=bt_at a0 x9_2
               replace p24:=eq_true p24
               replace q24:=eq_true q24
               have p26 : 0<=(x9_2 : Int):=of_decide_eq_true pQ
               have q26 : x9_2 < (a0.size : Int):=of_decide_eq_true pQ
               have hx26:=bt_at a0 x9_2
               replace p26:=eq_true p26
               replace q26:=eq_true q26
               go_wp2
               go_roundg kj14
               case measure=>have := HJ2.out; have := HK2.out; have := HJ14.out; omega
               case rel=>exact ⟨(x7_2),(x8_2),(wrap64 (x9_2 + 1)),(x544002_2),pR,pR,H',⟨by have := HJ2.out; have := HK2.out; have := HJ14.out; omega⟩,⟨by refine rp ?_; exact HO_7.out⟩,⟨blk_below BK540.out pl⟩,⟨blk_below BK543.out pl⟩,⟨pB⟩⟩
              ·rw [if_neg c27] at H
               have c27b0 : ((bt a0 x9_2) == 45) = false:=beq_eq_false_iff_ne.mpr c27
               have c27b1 : ((bt a0 x9_2) != 45) = true:=bne_iff_ne.mpr c27
               obtain ⟨y544,hy544⟩ : ∃ y_ : List Int,y_ = (([((bt a0 x9_2) - 48) % 256] : List Int)):=⟨_,rfl⟩
               replace H : (if y544.length + x7_2.length < 17592186044416 then ((some (y544 ++ x7_2 : List Int)).bind fun y547=>(if x8_2 = true then (bolterref02_Parse.l0 kj14 a0 y547 x8_2 (wrap64 (x9_2 + 1)) ((bt a0 0) == 45) (wrap64 (x544002_2 - 1))) else (bolterref02_Parse.l0 kj14 a0 y547 x8_2 (wrap64 (x9_2 + 1)) ((bt a0 0) == 45) x544002_2))) else (none)) = some (r1,r2,r3,r4):=by have hy_:=hy544; exact pH
               have Ny544:=am hy544
               clear hy544
               by_cases c29 : y544.length + x7_2.length < 17592186044416
               ·rw [if_pos c29] at H
                have LMc29:=am c29
                clear c29
                obtain ⟨y547,hy547⟩ : ∃ y_ : List Int,y_ = (y544 ++ x7_2):=⟨_,rfl⟩
                replace H : (if x8_2 = true then (bolterref02_Parse.l0 kj14 a0 y547 x8_2 (wrap64 (x9_2 + 1)) ((bt a0 0) == 45) (wrap64 (x544002_2 - 1))) else (bolterref02_Parse.l0 kj14 a0 y547 x8_2 (wrap64 (x9_2 + 1)) ((bt a0 0) == 45) x544002_2)) = some (r1,r2,r3,r4):=by have hy_:=hy547; exact pH
                have Ny547:=am hy547
                clear hy547
                by_cases c30 : x8_2 = true
                ·subst c30
                 rw [if_pos rfl] at H
                 have H':=am H
                 clear H
                 have p24 : 0<=(x9_2 : Int):=of_decide_eq_true pQ
                 have q24 : x9_2 < (a0.size : Int):=of_decide_eq_true pQ
                 have hx24:=bt_at a0 x9_2
                 replace p24:=eq_true p24
                 replace q24:=eq_true q24
                 have p26 : 0<=(x9_2 : Int):=of_decide_eq_true pQ
                 have q26 : x9_2 < (a0.size : Int):=of_decide_eq_true pQ
                 have hx26:=bt_at a0 x9_2
                 replace p26:=eq_true p26
                 replace q26:=eq_true q26
                 have p28 : 0<=(x9_2 : Int):=of_decide_eq_true pQ
                 have q28 : x9_2 < (a0.size : Int):=of_decide_eq_true pQ
                 have hx28:=bt_at a0 x9_2
                 replace p28:=eq_true p28
                 replace q28:=eq_true q28
                 go_wp2_with (first | ((with_reducible refine gd 70 ?_); (try (refine gate_guard (by rfl) ?_; dsimp only)); refine Kd.R_lit (Kd.int .i64) _ 3 ?hg (N:=70) ?hd (xs:=([((bt a0 x9_2) - 48) % 256] : List Int)) (inner:=[.int .i64 (((bt a0 x9_2) - 48) % 256)]) (ok:=fun _=>True) (okp:=fun _=>True) ?hr ?hp (fun _ hk=>hk) trivial (Below.refl _ _) (Nat.le_refl _) (by simp) ?_; (case hd=>rfl); (case hg=>rfl); (case hr=>first | (go_simp; done) | (go_simp; rfl)); (case hp=>exact (Reps.one (show Kd.M (Kd.int .i64) _ _ _ (((bt a0 x9_2) - 48) % 256) [.int .i64 (((bt a0 x9_2) - 48) % 256)] from rfl) (Reps.none _ _))); intro v545 w31 ho32 hb hg_ hnew_; clear hg_ hnew_; (first | rw [<- Ny544.out] at ho32 | (simp only [Int.reduceToNat] at ho32; rw [<- Ny544.out] at ho32)); have HO546:=am (Kd.R_lower (Kd.R_new' ho32 (Kd.R_lt (Kd.R_below HO_7.out pl))) (below_size pB)); replace HO_7:=reR HO_7 ho32 hb; replace BK540:=bb BK540 hb; replace BK543:=bb BK543 hb; replace HB:=bS hb; clear hb ho32; obtain ⟨Ao34,co34,eo34⟩:=Kd.R_slice HO_7.out; subst eo34) | ((with_reducible refine gate_builtin (b:=.append) (xs:=#[.tmp 70,.tmp 71]) rfl ?_); (try (refine gate_guard (by rfl) ?_; dsimp only)); at_builtin; refine Kd.R_append_rows (Kd.int .i64) (w0:=w) w.heap.size rfl (.tmp 70) (.tmp 71) 28 3 (.int .i64 0) 8 rfl Tryz.underlying28 info3 rfl (by decide) (by omega) v545 y544 x7_2 _ _ _ (fun k_=>some k_ ≠ (.slice Ao34 x7_2.length co34 : Value).ownBlock) (fun _=>False) rfl rfl ?aO ?aR (fun _ _ h=>h) (fun _ h=>h.elim) ?aF ?aB ?aS ?aL ?_; (case aR=>exact Kd.C_below (Kd.R_reads' HO_7.out).2.2 pl); (case aB=>exact pB); (case aF=>exact (fun k_ hk=>Kd.fresh' (Kd.R_lt (Kd.R_below HO_7.out pl)) k_ hk)); (case aO=>exact (Kd.R_below (Kd.R_mono HO546.out (fun _ hk=>hk.2)) pl)); (case aS=>exact (below_size pB)); (case aL=>have := LMc29.out; omega); intro v548 w33 ho hb hg hat; rw [<- Ny547.out] at ho; have HO549:=am ho; replace HO_7:=am (Kd.R_after (ok:=(fun _=>True)) (Kd.R_below HO_7.out pl) hg hat); replace BK540:=am (blk_grown (g:=gb540) (o:=.cells #[.bool false,.slice none 0 0,.int .i64 0] 24 (0,0)) (blk_below BK540.out pl) hg (Kd.R_ne HO546.out BK540.out (by decide))); replace BK543:=am (blk_grown (g:=gb543) (o:=.cells #[.bool ((bt a0 0) == 45),.slice none 0 0,.int .i64 x544002_2] 30 (0,0)) (blk_below BK543.out pl) hg (Kd.R_ne HO546.out BK543.out (by decide))); replace HB:=am hb; clear HO546 ho hb hg hat; have hnb35:=NB543_540.out; have hnc35:=NB540_543.out; obtain ⟨hcz36_0,hcz36_1,hcz36_2,hfz36_0,hfz36_1,hfz36_2⟩:=cEc BK543.out))
                 go_roundg kj14
                 case measure=>have := HJ2.out; have := HK2.out; have := HJ14.out; omega
                 case rel=>exact ⟨(y547),(true),(wrap64 (x9_2 + 1)),(wrap64 (x544002_2 - 1)),pR,pR,H',⟨by have := HJ2.out; have := HK2.out; have := HJ14.out; omega⟩,⟨by refine rp ?_; exact Kd.R_mono (Kd.R_far (p:=⟨gb543,2,none⟩) (Kd.R_types HO549.out BK543.out (by decide)) (fun _ hk=>hk.2) (.int .i64 (wrap64 (x544002_2 - 1)))) (fun _ hk=>trivial)⟩,⟨bf NB540_543.out BK540.out⟩,⟨by refine bp ?_; refine blk_put (cs:=#[.bool ((bt a0 0) == 45),.slice none 0 0,.int .i64 x544002_2]) ?_ 2 _ rfl; exact bp BK543.out⟩,⟨pB⟩⟩
                ·replace c30:=Bool.eq_false_iff.mpr c30
                 subst c30
                 rw [if_neg (show ¬ (false = true) by decide)] at H
                 have H':=am H
                 clear H
                 have p24 : 0<=(x9_2 : Int):=of_decide_eq_true pQ
                 have q24 : x9_2 < (a0.size : Int):=of_decide_eq_true pQ
                 have hx24:=bt_at a0 x9_2
                 replace p24:=eq_true p24
                 replace q24:=eq_true q24
                 have p26 : 0<=(x9_2 : Int):=of_decide_eq_true pQ
                 have q26 : x9_2 < (a0.size : Int):=of_decide_eq_true pQ
                 have hx26:=bt_at a0 x9_2
                 replace p26:=eq_true p26
                 replace q26:=eq_true q26
                 have p28 : 0<=(x9_2 : Int):=of_decide_eq_true pQ
                 have q28 : x9_2 < (a0.size : Int):=of_decide_eq_true pQ
                 have hx28:=bt_at a0 x9_2
                 replace p28:=eq_true p28
                 replace q28:=eq_true q28
                 go_wp2_with (first | ((with_reducible refine gd 70 ?_); (try (refine gate_guard (by rfl) ?_; dsimp only)); refine Kd.R_lit (Kd.int .i64) _ 3 ?hg (N:=70) ?hd (xs:=([((bt a0 x9_2) - 48) % 256] : List Int)) (inner:=[.int .i64 (((bt a0 x9_2) - 48) % 256)]) (ok:=fun _=>True) (okp:=fun _=>True) ?hr ?hp (fun _ hk=>hk) trivial (Below.refl _ _) (Nat.le_refl _) (by simp) ?_; (case hd=>rfl); (case hg=>rfl); (case hr=>first | (go_simp; done) | (go_simp; rfl)); (case hp=>exact (Reps.one (show Kd.M (Kd.int .i64) _ _ _ (((bt a0 x9_2) - 48) % 256) [.int .i64 (((bt a0 x9_2) - 48) % 256)] from rfl) (Reps.none _ _))); intro v545 w37 ho38 hb hg_ hnew_; clear hg_ hnew_; (first | rw [<- Ny544.out] at ho38 | (simp only [Int.reduceToNat] at ho38; rw [<- Ny544.out] at ho38)); have HO546:=am (Kd.R_lower (Kd.R_new' ho38 (Kd.R_lt (Kd.R_below HO_7.out pl))) (below_size pB)); replace HO_7:=reR HO_7 ho38 hb; replace BK540:=bb BK540 hb; replace BK543:=bb BK543 hb; replace HB:=bS hb; clear hb ho38; obtain ⟨Ao40,co40,eo40⟩:=Kd.R_slice HO_7.out; subst eo40) | ((with_reducible refine gate_builtin (b:=.append) (xs:=#[.tmp 70,.tmp 71]) rfl ?_); (try (refine gate_guard (by rfl) ?_; dsimp only)); at_builtin; refine Kd.R_append_rows (Kd.int .i64) (w0:=w) w.heap.size rfl (.tmp 70) (.tmp 71) 28 3 (.int .i64 0) 8 rfl Tryz.underlying28 info3 rfl (by decide) (by omega) v545 y544 x7_2 _ _ _ (fun k_=>some k_ ≠ (.slice Ao40 x7_2.length co40 : Value).ownBlock) (fun _=>False) rfl rfl ?aO ?aR (fun _ _ h=>h) (fun _ h=>h.elim) ?aF ?aB ?aS ?aL ?_; (case aR=>exact Kd.C_below (Kd.R_reads' HO_7.out).2.2 pl); (case aB=>exact pB); (case aF=>exact (fun k_ hk=>Kd.fresh' (Kd.R_lt (Kd.R_below HO_7.out pl)) k_ hk)); (case aO=>exact (Kd.R_below (Kd.R_mono HO546.out (fun _ hk=>hk.2)) pl)); (case aS=>exact (below_size pB)); (case aL=>have := LMc29.out; omega); intro v548 w39 ho hb hg hat; rw [<- Ny547.out] at ho; have HO549:=am ho; replace HO_7:=am (Kd.R_after (ok:=(fun _=>True)) (Kd.R_below HO_7.out pl) hg hat); replace BK540:=am (blk_grown (g:=gb540) (o:=.cells #[.bool false,.slice none 0 0,.int .i64 0] 24 (0,0)) (blk_below BK540.out pl) hg (Kd.R_ne HO546.out BK540.out (by decide))); replace BK543:=am (blk_grown (g:=gb543) (o:=.cells #[.bool ((bt a0 0) == 45),.slice none 0 0,.int .i64 x544002_2] 30 (0,0)) (blk_below BK543.out pl) hg (Kd.R_ne HO546.out BK543.out (by decide))); replace HB:=am hb; clear HO546 ho hb hg hat))
                 go_roundg kj14
                 case measure=>have := HJ2.out; have := HK2.out; have := HJ14.out; omega
                 case rel=>exact ⟨(y547),(false),(wrap64 (x9_2 + 1)),(x544002_2),pR,pR,H',⟨by have := HJ2.out; have := HK2.out; have := HJ14.out; omega⟩,⟨by refine rp ?_; exact Kd.R_mono HO549.out (fun _ hk=>trivial)⟩,⟨blk_below BK540.out pl⟩,⟨blk_below BK543.out pl⟩,⟨pB⟩⟩
               ·rw [if_neg c29] at H
                exact absurd H (by simp)
            ·rw [if_neg c23] at H
             exact absurd H (by simp)
           ·rw [if_neg c22] at H
            exact absurd H (by simp)
          ·replace c21:=Bool.eq_false_iff.mpr c21
           subst c21
           rw [if_neg (show ¬ (false = true) by decide)] at H
           by_cases c41 : x9_2 < (a0.size : Int)
           ·rw [if_pos c41] at H
            have c41b0 : decide (x9_2 < (a0.size : Int)) = true:=decide_eq_true c41
            clear c41
            have H':=am H
            clear H
            go_wp2
            go_loopg [9,10,11,12] kj14 (fun kq v9 v10 v11 v12 w' => ∃ (x9_4 : Int) (x10_4 : Bool) (x11_4 : Int) (x12_4 : Int) (x541000_4 : Bool) (x541002_4 : Int),v9 = .int .i64 x9_4/\v10 = .bool x10_4/\v11 = .int .i64 x11_4/\v12 = .int .i64 x12_4/\Aside0 (bolterref02_Parse.l1 kq a0 x7_2 x9_4 x10_4 x11_4 x12_4 ((bt a0 0) == 45) x544002_2 = some (r1,r2,r3,r4))/\Aside0 (kq<=kj14)/\Aside0 (Kd.R (Kd.int .i64) 3 w' w.heap.size (fun _=>True) u7 x7_2)/\Aside0 (w'.heap[gb540]? = some (.cells #[.bool x541000_4,(.slice none 0 0),.int .i64 x541002_4] 24 (0,0)))/\Aside0 (w'.heap[gb543]? = some (.cells #[.bool ((bt a0 0) == 45),(.slice none 0 0),.int .i64 x544002_2] 30 (0,0)))/\Aside0 (Below w.heap.size w w'))
            case atStart=>exact ⟨(wrap64 (x9_2 + 1)),(false),(0),(0),(false),(0),pR,pR,pR,pR,H',⟨Nat.le_refl _⟩,⟨by refine rp ?_; exact HO_7.out⟩,⟨blk_below BK540.out pl⟩,⟨blk_below BK543.out pl⟩,⟨pB⟩⟩
            case round =>
             clear H'
             obtain ⟨x9_4,x10_4,x11_4,x12_4,x541000_4,x541002_4,rfl,rfl,rfl,rfl,HA,HK4,HO_7,BK540,BK543,HB⟩:=hrel
             cases gk with
             | zero=>exact absurd HA.out (by simp [bolterref02_Parse.l1])
             | succ k4 =>
              have H:=HA.out
              clear HA
              simp only [bolterref02_Parse.l1] at H
              by_cases c42 : x9_4 < (a0.size : Int)
              ·rw [if_pos c42] at H
               have c42b0 : decide (x9_4 < (a0.size : Int)) = true:=decide_eq_true c42
               clear c42
               by_cases c43 : 0<=x9_4
               ·rw [if_pos c43] at H
                have c43b0 : decide (0<=x9_4) = true:=decide_eq_true c43
                clear c43
                by_cases c45 : (bt a0 x9_4) = 45
                ·rw [if_pos c45] at H
                 have c45b0 : ((bt a0 x9_4) == 45) = true:=beq_iff_eq.mpr c45
                 have c45b1 : ((bt a0 x9_4) != 45) = false:=bne_eq_false_iff_eq.mpr c45
                 clear c45
                 have H':=am H
                 clear H
                 have p44 : 0<=(x9_4 : Int):=of_decide_eq_true pQ
                 have q44 : x9_4 < (a0.size : Int):=of_decide_eq_true pQ
                 have hx44:=bt_at a0 x9_4
                 replace p44:=eq_true p44
                 replace q44:=eq_true q44
                 go_wp2
                 go_roundg k4
                 case measure=>have := HJ2.out; have := HK2.out; have := HJ14.out; have := HK4.out; omega
                 case rel=>exact ⟨(wrap64 (x9_4 + 1)),(true),(x11_4),(x12_4),(x541000_4),(x541002_4),pR,pR,pR,pR,H',⟨by have := HJ2.out; have := HK2.out; have := HJ14.out; have := HK4.out; omega⟩,⟨by refine rp ?_; exact HO_7.out⟩,⟨blk_below BK540.out pl⟩,⟨blk_below BK543.out pl⟩,⟨pB⟩⟩
                ·rw [if_neg c45] at H
                 have c45b0 : ((bt a0 x9_4) == 45) = false:=beq_eq_false_iff_ne.mpr c45
                 have c45b1 : ((bt a0 x9_4) != 45) = true:=bne_iff_ne.mpr c45
                 by_cases c47 : (bt a0 x9_4) = 43
                 ·rw [if_pos c47] at H
                  have c47b0 : ((bt a0 x9_4) == 43) = true:=beq_iff_eq.mpr c47
                  have c47b1 : ((bt a0 x9_4) != 43) = false:=bne_eq_false_iff_eq.mpr c47
                  clear c47
                  have H':=am H
                  clear H
                  have p44 : 0<=(x9_4 : Int):=of_decide_eq_true pQ
                  have q44 : x9_4 < (a0.size : Int):=of_decide_eq_true pQ
                  have hx44:=bt_at a0 x9_4
                  replace p44:=eq_true p44
                  replace q44:=eq_true q44
                  have p46 : 0<=(x9_4 : Int):=of_decide_eq_true pQ
                  have q46 : x9_4 < (a0.size : Int):=of_decide_eq_true pQ
                  have hx46:=bt_at a0 x9_4
                  replace p46:=eq_true p46
                  replace q46:=eq_true q46
                  go_wp2
                  go_roundg k4
                  case measure=>have := HJ2.out; have := HK2.out; have := HJ14.out; have := HK4.out; omega
                  case rel=>exact ⟨(wrap64 (x9_4 + 1)),(x10_4),(x11_4),(x12_4),(x541000_4),(x541002_4),pR,pR,pR,pR,H',⟨by have := HJ2.out; have := HK2.out; have := HJ14.out; have := HK4.out; omega⟩,⟨by refine rp ?_; exact HO_7.out⟩,⟨blk_below BK540.out pl⟩,⟨blk_below BK543.out pl⟩,⟨pB⟩⟩
                 ·rw [if_neg c47] at H
                  have c47b0 : ((bt a0 x9_4) == 43) = false:=beq_eq_false_iff_ne.mpr c47
                  have c47b1 : ((bt a0 x9_4) != 43) = true:=bne_iff_ne.mpr c47
                  have HC48:=am H
                  clear H
                  have p44 : 0<=(x9_4 : Int):=of_decide_eq_true pQ
                  have q44 : x9_4 < (a0.size : Int):=of_decide_eq_true pQ
                  have hx44:=bt_at a0 x9_4
                  replace p44:=eq_true p44
                  replace q44:=eq_true q44
                  have p46 : 0<=(x9_4 : Int):=of_decide_eq_true pQ
                  have q46 : x9_4 < (a0.size : Int):=of_decide_eq_true pQ
                  have hx46:=bt_at a0 x9_4
                  replace p46:=eq_true p46
                  replace q46:=eq_true q46
                  go_upto_region 26 with (fail)
                  go_cut [107] (fun v107 wc => ∃ (kq : Nat) (x107_47 : Bool),v107 = .bool x107_47/\Aside0 (bolterref02_Parse.j4 kq a0 x7_2 x9_4 x10_4 x11_4 x12_4 x107_47 ((bt a0 0) == 45) x544002_2 = some (r1,r2,r3,r4))/\Aside0 (kq<=k4)/\Aside0 (Kd.R (Kd.int .i64) 3 wc w.heap.size (fun _=>True) u7 x7_2)/\Aside0 (wc.heap[gb540]? = some (.cells #[.bool x541000_4,(.slice none 0 0),.int .i64 x541002_4] 24 (0,0)))/\Aside0 (wc.heap[gb543]? = some (.cells #[.bool ((bt a0 0) == 45),(.slice none 0 0),.int .i64 x544002_2] 30 (0,0)))/\Aside0 (Below w.heap.size w wc))
                  case first =>
                   have H:=HC48.out
                   clear HC48
                   by_cases c49 : x11_4 > 0
                   ·rw [if_pos c49] at H
                    have c49b0 : decide (0 < x11_4) = true:=decide_eq_true c49
                    clear c49
                    (first | rw [c49b0] | (simp only [i64_w,i32_w]; rw [c49b0]) | skip)
                    have H':=am H
                    clear H
                    go_wp2
                    go_meet
                    case rel=>exact ⟨_,(true),pR,H',⟨by have := HJ2.out; have := HK2.out; have := HJ14.out; have := HK4.out; first | omega | exact Nat.le_refl _⟩,⟨by refine rp ?_; exact HO_7.out⟩,⟨blk_below BK540.out pl⟩,⟨blk_below BK543.out pl⟩,⟨pB⟩⟩
                   ·rw [if_neg c49] at H
                    have c49b0 : decide (0 < x11_4) = false:=decide_eq_false c49
                    clear c49
                    (first | rw [c49b0] | (simp only [i64_w,i32_w]; rw [c49b0]) | skip)
                    have H':=am H
                    clear H
                    have p50 : 0<=(x9_4 : Int):=of_decide_eq_true pQ
                    have q50 : x9_4 < (a0.size : Int):=of_decide_eq_true pQ
                    have hx50:=bt_at a0 x9_4
                    replace p50:=eq_true p50
                    replace q50:=eq_true q50
                    go_wp2
                    go_meet
                    case rel=>exact ⟨_,(((bt a0 x9_4) != 48)),pR,H',⟨by have := HJ2.out; have := HK2.out; have := HJ14.out; have := HK4.out; first | omega | exact Nat.le_refl _⟩,⟨by refine rp ?_; exact HO_7.out⟩,⟨blk_below BK540.out pl⟩,⟨blk_below BK543.out pl⟩,⟨pB⟩⟩
                  case rest =>
                   clear HC48
                   obtain ⟨kq,x107_47,rfl,HA,HJ47,HO_7,BK540,BK543,HB⟩:=hcut
                   cases kq with
                   | zero=>exact absurd HA.out (by simp [bolterref02_Parse.j4])
                   | succ kj47 =>
                    have H:=HA.out
                    clear HA
                    simp only [bolterref02_Parse.j4] at H
                    by_cases c51 : x107_47 = true
                    ·subst c51
                     rw [if_pos rfl] at H
                     by_cases c52 : (wrap64 (x12_4 + 1)) > 6
                     ·rw [if_pos c52] at H
                      have c52b0 : decide (6 < (wrap64 (x12_4 + 1))) = true:=decide_eq_true c52
                      clear c52
                      simp only [Option.some.injEq,Prod.mk.injEq] at H
                      obtain ⟨rfl,rfl,rfl,rfl⟩:=H
                      have hnb53:=NB540_543.out
                      have hnc53:=NB543_540.out
                      obtain ⟨hcz54_0,hcz54_1,hcz54_2,hfz54_0,hfz54_1,hfz54_2⟩:=cEc BK540.out
                      go_wp2
                      refine bodyPost_ret (results_ct rfl _ _ gb540 24 #[.bool false,.slice none 0 0,.int .i64 0] (0,0) _ rfl (by exact p3 BK540) Tryz.underlying24 rfl (by kernel_rfl)) rfl ?_
                      exact ⟨_,pE,pN,pB⟩
                     ·rw [if_neg c52] at H
                      have c52b0 : decide (6 < (wrap64 (x12_4 + 1))) = false:=decide_eq_false c52
                      clear c52
                      by_cases c55 : 0<=x9_4
                      ·rw [if_pos c55] at H
                       have c55b0 : decide (0<=x9_4) = true:=decide_eq_true c55
                       clear c55
                       by_cases c56 : x9_4 < (a0.size : Int)
                       ·rw [if_pos c56] at H
                        have c56b0 : decide (x9_4 < (a0.size : Int)) = true:=decide_eq_true c56
                        clear c56
                        have H':=am H
                        clear H
                        have p57 : 0<=(x9_4 : Int):=of_decide_eq_true pQ
                        have q57 : x9_4 < (a0.size : Int):=of_decide_eq_true pQ
                        have hx57:=bt_at a0 x9_4
                        replace p57:=eq_true p57
                        replace q57:=eq_true q57
                        go_wp2
                        go_roundg kj47
                        case measure=>have := HJ2.out; have := HK2.out; have := HJ14.out; have := HK4.out; have := HJ47.out; omega
                        case rel=>exact ⟨(wrap64 (x9_4 + 1)),(x10_4),(wrap64 ((wrap64 (10 * x11_4)) + (((bt a0 x9_4) - 48) % 256))),(wrap64 (x12_4 + 1)),(x541000_4),(x541002_4),pR,pR,pR,pR,H',⟨by have := HJ2.out; have := HK2.out; have := HJ14.out; have := HK4.out; have := HJ47.out; omega⟩,⟨by refine rp ?_; exact HO_7.out⟩,⟨blk_below BK540.out pl⟩,⟨blk_below BK543.out pl⟩,⟨pB⟩⟩
                       ·rw [if_neg c56] at H
                        exact absurd H (by simp)
                      ·rw [if_neg c55] at H
                       exact absurd H (by simp)
                    ·replace c51:=Bool.eq_false_iff.mpr c51
                     subst c51
                     rw [if_neg (show ¬ (false = true) by decide)] at H
                     by_cases c58 : x12_4 > 6
                     ·rw [if_pos c58] at H
                      have c58b0 : decide (6 < x12_4) = true:=decide_eq_true c58
                      clear c58
                      simp only [Option.some.injEq,Prod.mk.injEq] at H
                      obtain ⟨rfl,rfl,rfl,rfl⟩:=H
                      have hnb59:=NB540_543.out
                      have hnc59:=NB543_540.out
                      obtain ⟨hcz60_0,hcz60_1,hcz60_2,hfz60_0,hfz60_1,hfz60_2⟩:=cEc BK540.out
                      go_wp2
                      refine bodyPost_ret (results_ct rfl _ _ gb540 24 #[.bool false,.slice none 0 0,.int .i64 0] (0,0) _ rfl (by exact p3 BK540) Tryz.underlying24 rfl (by kernel_rfl)) rfl ?_
                      exact ⟨_,pE,pN,pB⟩
                     ·rw [if_neg c58] at H
                      have c58b0 : decide (6 < x12_4) = false:=decide_eq_false c58
                      clear c58
                      by_cases c61 : 0<=x9_4
                      ·rw [if_pos c61] at H
                       have c61b0 : decide (0<=x9_4) = true:=decide_eq_true c61
                       clear c61
                       by_cases c62 : x9_4 < (a0.size : Int)
                       ·rw [if_pos c62] at H
                        have c62b0 : decide (x9_4 < (a0.size : Int)) = true:=decide_eq_true c62
                        clear c62
                        have H':=am H
                        clear H
                        have p63 : 0<=(x9_4 : Int):=of_decide_eq_true pQ
                        have q63 : x9_4 < (a0.size : Int):=of_decide_eq_true pQ
                        have hx63:=bt_at a0 x9_4
                        replace p63:=eq_true p63
                        replace q63:=eq_true q63
                        go_wp2
                        go_roundg kj47
                        case measure=>have := HJ2.out; have := HK2.out; have := HJ14.out; have := HK4.out; have := HJ47.out; omega
                        case rel=>exact ⟨(wrap64 (x9_4 + 1)),(x10_4),(wrap64 ((wrap64 (10 * x11_4)) + (((bt a0 x9_4) - 48) % 256))),(x12_4),(x541000_4),(x541002_4),pR,pR,pR,pR,H',⟨by have := HJ2.out; have := HK2.out; have := HJ14.out; have := HK4.out; have := HJ47.out; omega⟩,⟨by refine rp ?_; exact HO_7.out⟩,⟨blk_below BK540.out pl⟩,⟨blk_below BK543.out pl⟩,⟨pB⟩⟩
                       ·rw [if_neg c62] at H
                        exact absurd H (by simp)
                      ·rw [if_neg c61] at H
                       exact absurd H (by simp)
               ·rw [if_neg c43] at H
                exact absurd H (by simp)
              ·rw [if_neg c42] at H
               have c42b0 : decide (x9_4 < (a0.size : Int)) = false:=decide_eq_false c42
               clear c42
               by_cases c64 : x10_4 = true
               ·subst c64
                rw [if_pos rfl] at H
                obtain ⟨⟨t550,t551,t554,t555⟩,A65,H⟩:=ob H; (try dsimp only at H)
                simp only [Option.some.injEq,Prod.mk.injEq] at H
                obtain ⟨rfl,rfl,rfl,rfl⟩:=H
                have hnb66:=NB543_540.out
                have hnc66:=NB540_543.out
                obtain ⟨hcz67_0,hcz67_1,hcz67_2,hfz67_0,hfz67_1,hfz67_2⟩:=cEc BK543.out
                go_wp2_with (first | ((with_reducible refine gate_store (t:=3) (p:=128) rfl ?_); refine store_event (t:=3) (p:=128) (v:=?vo_w68) (w1:=(wr.setCell ⟨gb543,2,none⟩ (.int .i64 (wrap64 (x544002_2 + (wrap64 (-x11_4))))))) ?hg ?ho ?hn ?hr ?_; (case ho=>rfl); (case hg=>rfl); (case hn=>rfl); (case hr=>first | (go_simp; done) | (go_simp; rfl)); intro w68 hw; replace HO_7 : Aside0 (Kd.R (Kd.int .i64) 3 w68 w.heap.size (fun _=>True) u7 x7_2):=⟨(by rw [hw]; exact (Kd.R_below (Kd.R_mono (Kd.R_far (p:=⟨gb543,2,none⟩) (Kd.R_types HO_7.out BK543.out (by decide)) (fun _ hk=>hk.2) (.int .i64 (wrap64 (x544002_2 + (wrap64 (-x11_4)))))) (fun _ hk=>trivial)) pl))⟩; replace BK540 : Aside0 (w68.heap[gb540]? = some (.cells #[.bool x541000_4,.slice none 0 0,.int .i64 x541002_4] 24 (0,0))):=⟨(by rw [hw]; exact (bf NB540_543.out BK540.out))⟩; replace BK543 : Aside0 (w68.heap[gb543]? = some (.cells #[.bool ((bt a0 0) == 45),.slice none 0 0,.int .i64 (wrap64 (x544002_2 + (wrap64 (-x11_4))))] 30 (0,0))):=⟨(by rw [hw]; exact (by refine bp ?_; refine blk_put (cs:=#[.bool ((bt a0 0) == 45),.slice none 0 0,.int .i64 x544002_2]) ?_ 2 _ rfl; exact bp BK543.out))⟩; replace HB : Aside0 (Below w.heap.size w w68):=⟨(by rw [hw]; exact pB)⟩; clear hw; obtain ⟨Ao69,co69,eo69⟩:=Kd.R_slice HO_7.out; subst eo69; obtain ⟨hcz70_0,hcz70_1,hcz70_2,hfz70_0,hfz70_1,hfz70_2⟩:=cEc BK543.out) | ((with_reducible refine gate_store (t:=28) (p:=130) rfl ?_); refine store_event (t:=28) (p:=130) (v:=?vo_w71) (w1:=(w68.setCell ⟨gb543,1,none⟩ (.slice Ao69 x7_2.length co69))) ?hg ?ho ?hn ?hr ?_; (case ho=>rfl); (case hg=>rfl); (case hn=>rfl); (case hr=>first | (go_simp; done) | (go_simp; rfl)); intro w71 hw; replace HO_7 : Aside0 (Kd.R (Kd.int .i64) 3 w71 w.heap.size (fun _=>True) (.slice Ao69 x7_2.length co69) x7_2):=⟨(by rw [hw]; exact (Kd.R_below (Kd.R_mono (Kd.R_far (p:=⟨gb543,1,none⟩) (Kd.R_types HO_7.out BK543.out (by decide)) (fun _ hk=>hk.2) (.slice Ao69 x7_2.length co69)) (fun _ hk=>trivial)) pl))⟩; replace BK540 : Aside0 (w71.heap[gb540]? = some (.cells #[.bool x541000_4,.slice none 0 0,.int .i64 x541002_4] 24 (0,0))):=⟨(by rw [hw]; exact (bf NB540_543.out BK540.out))⟩; replace BK543 : Aside0 (w71.heap[gb543]? = some (.cells #[.bool ((bt a0 0) == 45),.slice Ao69 x7_2.length co69,.int .i64 (wrap64 (x544002_2 + (wrap64 (-x11_4))))] 30 (0,0))):=⟨(by rw [hw]; exact (by refine bp ?_; refine blk_put (cs:=#[.bool ((bt a0 0) == 45),.slice none 0 0,.int .i64 (wrap64 (x544002_2 + (wrap64 (-x11_4))))]) ?_ 1 _ rfl; exact bp BK543.out))⟩; replace HB : Aside0 (Below w.heap.size w w71):=⟨(by rw [hw]; exact pB)⟩; clear hw; obtain ⟨hcz72_0,hcz72_1,hcz72_2,hfz72_0,hfz72_1,hfz72_2⟩:=cEc BK543.out) | (refine gL (some 132) Tryz.func23 #[.agg #[.bool ((bt a0 0) == 45),.slice Ao69 x7_2.length co69,.int .i64 (wrap64 (x544002_2 + (wrap64 (-x11_4))))]] (h:=?_); (with_reducible refine (bolterref02_Made.calls k4 ((bt a0 0) == 45) (fun k_=>some k_ = (.slice Ao69 x7_2.length co69 : Value).ownBlock) (.slice Ao69 x7_2.length co69) x7_2 (wrap64 (x544002_2 + (wrap64 (-x11_4)))) t550 t551 t554 t555 w _ ?side1 ?side2 A65.out).mono ?_); (case side1=>exact pB); (case side2=>exact Kd.R_tight rfl HO_7.out); rintro e w73 ⟨v552,rfl,ho0,hb,hkp⟩; refine ⟨_,rfl,?_⟩; have HO553:=am (Kd.R_mono (ok':=fun k_=>True) ho0 (fun k_ hk_=>trivial)); replace BK540:=am (blk_kept (blk_below BK540.out pl) hkp (fun e_=>Kd.R_ne HO_7.out BK540.out (by decide) e_)); replace BK543:=am (blk_kept (blk_below BK543.out pl) hkp (fun e_=>Kd.R_ne HO_7.out BK543.out (by decide) e_)); replace HB:=am hb; clear HO_7; obtain ⟨hcz74_0,hcz74_1,hcz74_2,hfz74_0,hfz74_1,hfz74_2⟩:=cEc BK540.out; obtain ⟨Ao75,co75,eo75⟩:=Kd.R_slice HO553.out; subst eo75))
                refine bodyPost_ret (results_ct rfl _ _ gb540 24 #[.bool t550,.slice Ao75 t551.length co75,.int .i64 t554] (0,0) _ rfl (by exact p3 BK540) Tryz.underlying24 rfl (by kernel_rfl)) rfl ?_
                exact ⟨_,pE,by refine rp ?_; exact Kd.R_mono (Kd.R_far (p:=⟨gb540,2,none⟩) (Kd.R_far (p:=⟨gb540,1,none⟩) (Kd.R_far (p:=⟨gb540,0,none⟩) (Kd.R_types HO553.out BK540.out (by decide)) (fun _ hk=>hk.2) (.bool t550)) (fun _ hk=>hk.2) (.slice Ao75 t551.length co75)) (fun _ hk=>hk.2) (.int .i64 t554)) (fun _ hk=>trivial),pB⟩
               ·replace c64:=Bool.eq_false_iff.mpr c64
                subst c64
                rw [if_neg (show ¬ (false = true) by decide)] at H
                obtain ⟨⟨t556,t557,t560,t561⟩,A76,H⟩:=ob H; (try dsimp only at H)
                simp only [Option.some.injEq,Prod.mk.injEq] at H
                obtain ⟨rfl,rfl,rfl,rfl⟩:=H
                have hnb77:=NB543_540.out
                have hnc77:=NB540_543.out
                obtain ⟨hcz78_0,hcz78_1,hcz78_2,hfz78_0,hfz78_1,hfz78_2⟩:=cEc BK543.out
                go_wp2_with (first | ((with_reducible refine gate_store (t:=3) (p:=128) rfl ?_); refine store_event (t:=3) (p:=128) (v:=?vo_w79) (w1:=(wr.setCell ⟨gb543,2,none⟩ (.int .i64 (wrap64 (x544002_2 + x11_4))))) ?hg ?ho ?hn ?hr ?_; (case ho=>rfl); (case hg=>rfl); (case hn=>rfl); (case hr=>first | (go_simp; done) | (go_simp; rfl)); intro w79 hw; replace HO_7 : Aside0 (Kd.R (Kd.int .i64) 3 w79 w.heap.size (fun _=>True) u7 x7_2):=⟨(by rw [hw]; exact (Kd.R_below (Kd.R_mono (Kd.R_far (p:=⟨gb543,2,none⟩) (Kd.R_types HO_7.out BK543.out (by decide)) (fun _ hk=>hk.2) (.int .i64 (wrap64 (x544002_2 + x11_4)))) (fun _ hk=>trivial)) pl))⟩; replace BK540 : Aside0 (w79.heap[gb540]? = some (.cells #[.bool x541000_4,.slice none 0 0,.int .i64 x541002_4] 24 (0,0))):=⟨(by rw [hw]; exact (bf NB540_543.out BK540.out))⟩; replace BK543 : Aside0 (w79.heap[gb543]? = some (.cells #[.bool ((bt a0 0) == 45),.slice none 0 0,.int .i64 (wrap64 (x544002_2 + x11_4))] 30 (0,0))):=⟨(by rw [hw]; exact (by refine bp ?_; refine blk_put (cs:=#[.bool ((bt a0 0) == 45),.slice none 0 0,.int .i64 x544002_2]) ?_ 2 _ rfl; exact bp BK543.out))⟩; replace HB : Aside0 (Below w.heap.size w w79):=⟨(by rw [hw]; exact pB)⟩; clear hw; obtain ⟨Ao80,co80,eo80⟩:=Kd.R_slice HO_7.out; subst eo80; obtain ⟨hcz81_0,hcz81_1,hcz81_2,hfz81_0,hfz81_1,hfz81_2⟩:=cEc BK543.out) | ((with_reducible refine gate_store (t:=28) (p:=130) rfl ?_); refine store_event (t:=28) (p:=130) (v:=?vo_w82) (w1:=(w79.setCell ⟨gb543,1,none⟩ (.slice Ao80 x7_2.length co80))) ?hg ?ho ?hn ?hr ?_; (case ho=>rfl); (case hg=>rfl); (case hn=>rfl); (case hr=>first | (go_simp; done) | (go_simp; rfl)); intro w82 hw; replace HO_7 : Aside0 (Kd.R (Kd.int .i64) 3 w82 w.heap.size (fun _=>True) (.slice Ao80 x7_2.length co80) x7_2):=⟨(by rw [hw]; exact (Kd.R_below (Kd.R_mono (Kd.R_far (p:=⟨gb543,1,none⟩) (Kd.R_types HO_7.out BK543.out (by decide)) (fun _ hk=>hk.2) (.slice Ao80 x7_2.length co80)) (fun _ hk=>trivial)) pl))⟩; replace BK540 : Aside0 (w82.heap[gb540]? = some (.cells #[.bool x541000_4,.slice none 0 0,.int .i64 x541002_4] 24 (0,0))):=⟨(by rw [hw]; exact (bf NB540_543.out BK540.out))⟩; replace BK543 : Aside0 (w82.heap[gb543]? = some (.cells #[.bool ((bt a0 0) == 45),.slice Ao80 x7_2.length co80,.int .i64 (wrap64 (x544002_2 + x11_4))] 30 (0,0))):=⟨(by rw [hw]; exact (by refine bp ?_; refine blk_put (cs:=#[.bool ((bt a0 0) == 45),.slice none 0 0,.int .i64 (wrap64 (x544002_2 + x11_4))]) ?_ 1 _ rfl; exact bp BK543.out))⟩; replace HB : Aside0 (Below w.heap.size w w82):=⟨(by rw [hw]; exact pB)⟩; clear hw; obtain ⟨hcz83_0,hcz83_1,hcz83_2,hfz83_0,hfz83_1,hfz83_2⟩:=cEc BK543.out) | (refine gL (some 132) Tryz.func23 #[.agg #[.bool ((bt a0 0) == 45),.slice Ao80 x7_2.length co80,.int .i64 (wrap64 (x544002_2 + x11_4))]] (h:=?_); (with_reducible refine (bolterref02_Made.calls k4 ((bt a0 0) == 45) (fun k_=>some k_ = (.slice Ao80 x7_2.length co80 : Value).ownBlock) (.slice Ao80 x7_2.length co80) x7_2 (wrap64 (x544002_2 + x11_4)) t556 t557 t560 t561 w _ ?side1 ?side2 A76.out).mono ?_); (case side1=>exact pB); (case side2=>exact Kd.R_tight rfl HO_7.out); rintro e w84 ⟨v558,rfl,ho0,hb,hkp⟩; refine ⟨_,rfl,?_⟩; have HO559:=am (Kd.R_mono (ok':=fun k_=>True) ho0 (fun k_ hk_=>trivial)); replace BK540:=am (blk_kept (blk_below BK540.out pl) hkp (fun e_=>Kd.R_ne HO_7.out BK540.out (by decide) e_)); replace BK543:=am (blk_kept (blk_below BK543.out pl) hkp (fun e_=>Kd.R_ne HO_7.out BK543.out (by decide) e_)); replace HB:=am hb; clear HO_7; obtain ⟨hcz85_0,hcz85_1,hcz85_2,hfz85_0,hfz85_1,hfz85_2⟩:=cEc BK540.out; obtain ⟨Ao86,co86,eo86⟩:=Kd.R_slice HO559.out; subst eo86))
                refine bodyPost_ret (results_ct rfl _ _ gb540 24 #[.bool t556,.slice Ao86 t557.length co86,.int .i64 t560] (0,0) _ rfl (by exact p3 BK540) Tryz.underlying24 rfl (by kernel_rfl)) rfl ?_
                exact ⟨_,pE,by refine rp ?_; exact Kd.R_mono (Kd.R_far (p:=⟨gb540,2,none⟩) (Kd.R_far (p:=⟨gb540,1,none⟩) (Kd.R_far (p:=⟨gb540,0,none⟩) (Kd.R_types HO559.out BK540.out (by decide)) (fun _ hk=>hk.2) (.bool t556)) (fun _ hk=>hk.2) (.slice Ao86 t557.length co86)) (fun _ hk=>hk.2) (.int .i64 t560)) (fun _ hk=>trivial),pB⟩
           ·rw [if_neg c41] at H
            have c41b0 : decide (x9_2 < (a0.size : Int)) = false:=decide_eq_false c41
            clear c41
            obtain ⟨⟨t562,t563,t566,t567⟩,A87,H⟩:=ob H; (try dsimp only at H)
            simp only [Option.some.injEq,Prod.mk.injEq] at H
            obtain ⟨rfl,rfl,rfl,rfl⟩:=H
            obtain ⟨Ao88,co88,eo88⟩:=Kd.R_slice HO_7.out
            subst eo88
            have hnb89:=NB543_540.out
            have hnc89:=NB540_543.out
            obtain ⟨hcz90_0,hcz90_1,hcz90_2,hfz90_0,hfz90_1,hfz90_2⟩:=cEc BK543.out
            go_wp2_with (first | ((with_reducible refine gate_store (t:=28) (p:=130) rfl ?_); refine store_event (t:=28) (p:=130) (v:=?vo_w91) (w1:=(wc.setCell ⟨gb543,1,none⟩ (.slice Ao88 x7_2.length co88))) ?hg ?ho ?hn ?hr ?_; (case ho=>rfl); (case hg=>rfl); (case hn=>rfl); (case hr=>first | (go_simp; done) | (go_simp; rfl)); intro w91 hw; replace HO_7 : Aside0 (Kd.R (Kd.int .i64) 3 w91 w.heap.size (fun _=>True) (.slice Ao88 x7_2.length co88) x7_2):=⟨(by rw [hw]; exact (Kd.R_below (Kd.R_mono (Kd.R_far (p:=⟨gb543,1,none⟩) (Kd.R_types HO_7.out BK543.out (by decide)) (fun _ hk=>hk.2) (.slice Ao88 x7_2.length co88)) (fun _ hk=>trivial)) pl))⟩; replace BK540 : Aside0 (w91.heap[gb540]? = some (.cells #[.bool false,.slice none 0 0,.int .i64 0] 24 (0,0))):=⟨(by rw [hw]; exact (bf NB540_543.out BK540.out))⟩; replace BK543 : Aside0 (w91.heap[gb543]? = some (.cells #[.bool ((bt a0 0) == 45),.slice Ao88 x7_2.length co88,.int .i64 x544002_2] 30 (0,0))):=⟨(by rw [hw]; exact (by refine bp ?_; refine blk_put (cs:=#[.bool ((bt a0 0) == 45),.slice none 0 0,.int .i64 x544002_2]) ?_ 1 _ rfl; exact bp BK543.out))⟩; replace HB : Aside0 (Below w.heap.size w w91):=⟨(by rw [hw]; exact pB)⟩; clear hw; obtain ⟨hcz92_0,hcz92_1,hcz92_2,hfz92_0,hfz92_1,hfz92_2⟩:=cEc BK543.out) | (refine gL (some 132) Tryz.func23 #[.agg #[.bool ((bt a0 0) == 45),.slice Ao88 x7_2.length co88,.int .i64 x544002_2]] (h:=?_); (with_reducible refine (bolterref02_Made.calls kj14 ((bt a0 0) == 45) (fun k_=>some k_ = (.slice Ao88 x7_2.length co88 : Value).ownBlock) (.slice Ao88 x7_2.length co88) x7_2 x544002_2 t562 t563 t566 t567 w _ ?side1 ?side2 A87.out).mono ?_); (case side1=>exact pB); (case side2=>exact Kd.R_tight rfl HO_7.out); rintro e w93 ⟨v564,rfl,ho0,hb,hkp⟩; refine ⟨_,rfl,?_⟩; have HO565:=am (Kd.R_mono (ok':=fun k_=>True) ho0 (fun k_ hk_=>trivial)); replace BK540:=am (blk_kept (blk_below BK540.out pl) hkp (fun e_=>Kd.R_ne HO_7.out BK540.out (by decide) e_)); replace BK543:=am (blk_kept (blk_below BK543.out pl) hkp (fun e_=>Kd.R_ne HO_7.out BK543.out (by decide) e_)); replace HB:=am hb; clear HO_7; obtain ⟨hcz94_0,hcz94_1,hcz94_2,hfz94_0,hfz94_1,hfz94_2⟩:=cEc BK540.out; obtain ⟨Ao95,co95,eo95⟩:=Kd.R_slice HO565.out; subst eo95))
            refine bodyPost_ret (results_ct rfl _ _ gb540 24 #[.bool t562,.slice Ao95 t563.length co95,.int .i64 t566] (0,0) _ rfl (by exact p3 BK540) Tryz.underlying24 rfl (by kernel_rfl)) rfl ?_
            exact ⟨_,pE,by refine rp ?_; exact Kd.R_mono (Kd.R_far (p:=⟨gb540,2,none⟩) (Kd.R_far (p:=⟨gb540,1,none⟩) (Kd.R_far (p:=⟨gb540,0,none⟩) (Kd.R_types HO565.out BK540.out (by decide)) (fun _ hk=>hk.2) (.bool t562)) (fun _ hk=>hk.2) (.slice Ao95 t563.length co95)) (fun _ hk=>hk.2) (.int .i64 t566)) (fun _ hk=>trivial),pB⟩
     ·rw [if_neg c10] at H
      exact absurd H (by simp)
def bolterlaw02_Of.f (k : Nat) (a0 : ByteArray) : Option (Bool × List Int × Int):=(bolterref02_Parse.f k a0).bind fun bt569=>(some (bt569.1,bt569.2.1,bt569.2.2.1))
theorem bolterlaw02_Of.calls (k : Nat) (a0 : ByteArray) (r1 : Bool) (r2 : List Int) (r3 : Int) (w : World) (h : bolterlaw02_Of.f k a0 = some (r1,r2,r3)) :
  Calls Tryz.prog 62 #[.string a0] w fun e w' => ∃ v1_ : Value,e = .returned (.agg #[.bool r1,v1_,.int .i64 r3])/\Kd.R (Kd.int .u32) 85 w' w.heap.size (fun _=>True) v1_ r2/\Below w.heap.size w w':=by
 have hu24:=Tryz.underlying24
 have HB:=am (Below.refl w.heap.size w)
 have H : ((bolterref02_Parse.f k a0).bind fun bt569=>(some (bt569.1,bt569.2.1,bt569.2.2.1))) = some (r1,r2,r3):=h
 clear h
 obtain ⟨⟨t569,t570,t573,t574⟩,A2,H⟩:=ob H; (try dsimp only at H)
 simp only [Option.some.injEq,Prod.mk.injEq] at H
 obtain ⟨rfl,rfl,rfl⟩:=H
 go_enter Tryz.func62,Tryz.ntmps62
 go_wp2_with (first | ((with_reducible refine gd 2 ?_); refine bx 2 #[.bool false,.slice none 0 0,.int .i64 0] 24 (h:=?_); intro gb568 hg w3 hbox hb; have BK568:=am hbox; have GW568:=gW hg; have GE568:=gW hg; replace HB:=bS hb; clear hb hbox hg) | (refine gL (some 7) Tryz.func58 #[.string a0] (h:=?_); (with_reducible refine (bolterref02_Parse.calls k a0 t569 t570 t573 t574 _ A2.out).mono ?_); rintro e w4 ⟨v571,rfl,ho0,hb⟩; refine ⟨_,rfl,?_⟩; have HO572:=am (Kd.R_lower ho0 (below_size pB)); replace BK568:=bb BK568 hb; replace HB:=bS hb) | ((with_reducible refine gd 3 ?_); refine bx 3 #[.bool false,.slice none 0 0,.int .i64 0] 24 (h:=?_); intro gb575 hg w5 hbox hb; have BK575:=am hbox; have GW575:=gW hg; have GE575:=gW hg; have NB568_575:=nL hg BK568; have NB575_568:=nG hg BK568; replace HO572:=rbl HO572 hb; replace BK568:=bb BK568 hb; replace HB:=bS hb; clear hb hbox hg; have hnb6:=NB575_568.out; have hnc6:=NB568_575.out; obtain ⟨hcz7_0,hcz7_1,hcz7_2,hfz7_0,hfz7_1,hfz7_2⟩:=cEc BK575.out; obtain ⟨Ao8,co8,eo8⟩:=Kd.R_slice HO572.out; subst eo8; obtain ⟨hcz9_0,hcz9_1,hcz9_2,hfz9_0,hfz9_1,hfz9_2⟩:=cEc BK568.out))
 refine bodyPost_ret (results_cell_row rfl _ _ gb568 24 #[.bool t569,.slice Ao8 t570.length co8,.int .i64 t573] (0,0) _ rfl (by refine bp ?_; refine blk_put (cs:=#[.bool t569,.slice Ao8 t570.length co8,.int .i64 0]) ?_ 2 _ rfl; refine bp ?_; refine blk_put (cs:=#[.bool t569,.slice none 0 0,.int .i64 0]) ?_ 1 _ rfl; refine bp ?_; refine blk_put (cs:=#[.bool false,.slice none 0 0,.int .i64 0]) ?_ 0 _ rfl; refine bp ?_; refine blk_far ?_ NB568_575.out _; refine bp ?_; refine blk_far ?_ NB568_575.out _; refine bp ?_; refine blk_far ?_ NB568_575.out _; exact bp BK568.out) Tryz.underlying24 rfl (by kernel_rfl)) rfl ?_
 exact ⟨_,pE,by refine rp ?_; exact Kd.R_mono (Kd.R_far (p:=⟨gb568,2,none⟩) (Kd.R_far (p:=⟨gb568,1,none⟩) (Kd.R_far (p:=⟨gb568,0,none⟩) (Kd.R_far (p:=⟨gb575,2,none⟩) (Kd.R_far (p:=⟨gb575,1,none⟩) (Kd.R_far (p:=⟨gb575,0,none⟩) (Kd.R_types (Kd.R_types HO572.out BK575.out (by decide)) BK568.out (by decide)) (fun _ hk=>hk.1.2) (.bool t569)) (fun _ hk=>hk.1.2) (.slice Ao8 t570.length co8)) (fun _ hk=>hk.1.2) (.int .i64 t573)) (fun _ hk=>hk.2) (.bool t569)) (fun _ hk=>hk.2) (.slice Ao8 t570.length co8)) (fun _ hk=>hk.2) (.int .i64 t573)) (fun _ hk=>trivial),pB⟩
def bolterlaw02_alive.f (k : Nat)  : Option (Bool):=(bolterlaw02_Of.f k (⟨#[49,46,53,48]⟩ : ByteArray)).bind fun bt1577=>((bolterlaw02_Of.f k (⟨#[48,46,53]⟩ : ByteArray)).bind fun bt1582=>((dec_Add.f k bt1577.1 bt1577.2.1 bt1577.2.2 bt1582.1 bt1582.2.1 bt1582.2.2).bind fun bt1587=>((dec_Print.f k bt1587.1 bt1587.2.1 bt1587.2.2.1).bind fun bt1594=>((bolterlaw02_Of.f k (⟨#[49,101,51,48]⟩ : ByteArray)).bind fun bt1596=>((dec_Print.f k bt1596.1 bt1596.2.1 bt1596.2.2).bind fun bt1601=>((bolterlaw02_num.f bt1587.2.2.2).bind fun t1603=>((bolterlaw02_num.f bt1594.2).bind fun t1604=>((bolterlaw02_num.f bt1601.2).bind fun t1605=>(if (wrap64 ((wrap64 (t1603 + t1604)) + t1605)) = 0 then (if bt1594.1.toList = ([50] : List UInt8) then (some (bt1601.1.toList == ([49,101,43,51,48] : List UInt8))) else (some false)) else (some false))))))))))
theorem bolterlaw02_alive.leaf {P : Prop} (h : P:=by
 go_enter Tryz.func41,Tryz.ntmps41
 go_wp2_with (first | (refine gL (some 8) Tryz.func62 #[.string (⟨#[49,46,53,48]⟩ : ByteArray)] (h:=?_); (with_reducible refine (bolterlaw02_Of.calls k (⟨#[49,46,53,48]⟩ : ByteArray) t1577 t1578 t1581 _ A1.out).mono ?_); rintro e w0z ⟨v1z,rfl,ho2z,hb⟩; refine ⟨_,rfl,?_⟩; have HO3z:=am (Kd.R_lower ho2z (below_size pB)); replace HB:=bS hb) | (refine gL (some 9) Tryz.func62 #[.string (⟨#[48,46,53]⟩ : ByteArray)] (h:=?_); (with_reducible refine (bolterlaw02_Of.calls k (⟨#[48,46,53]⟩ : ByteArray) t1582 t1583 t1586 _ A2.out).mono ?_); rintro e w4z ⟨v5z,rfl,ho2z,hb⟩; refine ⟨_,rfl,?_⟩; have HO6z:=am (Kd.R_lower (Kd.R_new' ho2z (Kd.R_lt (Kd.R_below HO3z.out pl))) (below_size pB)); replace HO3z:=reR HO3z ho2z hb; replace HB:=bS hb; obtain ⟨Ao7z,co8z,eo9z⟩:=Kd.R_slice HO3z.out; subst eo9z; obtain ⟨Ao10z,co11z,eo12z⟩:=Kd.R_slice HO6z.out; subst eo12z) | (refine gL (some 10) Tryz.func43 #[.agg #[.bool t1577,.slice Ao7z t1578.length co8z,.int .i64 t1581],.agg #[.bool t1582,.slice Ao10z t1583.length co11z,.int .i64 t1586]] (h:=?_); (with_reducible refine (dec_Add.calls k t1577 (fun k_=>some k_ = (.slice Ao7z t1578.length co8z : Value).ownBlock) _ _ t1578 t1581 t1582 (fun k_=>some k_ = (.slice Ao10z t1583.length co11z : Value).ownBlock) _ _ t1583 t1586 t1587 t1588 t1591 t1592 _ ?side1 ?side2 A3.out).mono ?_); (case side1=>exact Kd.R_V (Kd.R_tight rfl (HO3z.out))); (case side2=>exact Kd.R_V (Kd.R_tight rfl (HO6z.out))); rintro e w13z ⟨v14z,rfl,ho2z,hb⟩; refine ⟨_,rfl,?_⟩; have HO15z:=am (Kd.R_lower (Kd.R_new' (Kd.R_new' (Kd.R_mono (ok':=fun k_=>True) ho2z (fun _ hk_=>trivial)) (Kd.R_lt (Kd.R_below HO3z.out pl))) (Kd.R_lt (Kd.R_below HO6z.out pl))) (below_size pB)); replace HO3z:=reR HO3z ho2z hb; replace HO6z:=reR HO6z ho2z hb; replace HB:=bS hb) | ((with_reducible refine gd 1 ?_); refine bx 1 #[.bool false,.slice none 0 0,.int .i64 0] 24 (h:=?_); intro gb16z hg w17z hbox hb; have BK18z:=am hbox; have GW19z:=gW hg; have GE20z:=gW hg; replace HO3z:=rbl HO3z hb; replace HO6z:=rbl HO6z hb; replace HO15z:=rbl HO15z hb; replace HB:=bS hb; clear hb hbox hg; obtain ⟨hcz21z,hcz22z,hcz23z,hfz24z,hfz25z,hfz26z⟩:=cEc BK18z.out; obtain ⟨Ao27z,co28z,eo29z⟩:=Kd.R_slice HO15z.out; subst eo29z) | (refine gL (some 15) Tryz.func56 #[.agg #[.bool t1587,.slice Ao27z t1588.length co28z,.int .i64 t1591]] (h:=?_); (with_reducible refine (dec_Print.calls k t1587 _ _ t1588 t1591 t1594 t1595 _ ?side1 ?side2 A4.out).mono ?_); (case side1=>refine (Kd.R_reads' (e:=85) (base:=w.heap.size) (ok:=fun k_=>((True/\some k_ ≠ (.slice Ao7z t1578.length co8z : Value).ownBlock)/\some k_ ≠ (.slice Ao10z t1583.length co11z : Value).ownBlock)) (n:=t1588.length) (c:=co28z) ?_).2.2; exact (Kd.R_below (z3 HO15z.out BK18z.out (by decide) (.bool t1587) (.slice Ao27z t1588.length co28z) (.int .i64 t1591)) pl)); (case side2=>exact (Kd.R_reads' HO15z.out).2.1); rintro e w30z ⟨rfl,hb⟩; refine ⟨_,rfl,?_⟩; replace HO3z:=am (Kd.R_below (Kd.R_below (z3 HO3z.out BK18z.out (by decide) (.bool t1587) (.slice Ao27z t1588.length co28z) (.int .i64 t1591)) pl) hb); replace HO6z:=am (Kd.R_below (Kd.R_below (z3 HO6z.out BK18z.out (by decide) (.bool t1587) (.slice Ao27z t1588.length co28z) (.int .i64 t1591)) pl) hb); replace HO15z:=am (Kd.R_below (Kd.R_below (z3 HO15z.out BK18z.out (by decide) (.bool t1587) (.slice Ao27z t1588.length co28z) (.int .i64 t1591)) pl) hb); replace BK18z:=am (blk_below (g:=gb16z) (o:=.cells #[.bool t1587,.slice Ao27z t1588.length co28z,.int .i64 t1591] 24 (0,0)) (by exact p3 BK18z) hb); replace HB:=bS hb) | (refine gL (some 19) Tryz.func62 #[.string (⟨#[49,101,51,48]⟩ : ByteArray)] (h:=?_); (with_reducible refine (bolterlaw02_Of.calls k (⟨#[49,101,51,48]⟩ : ByteArray) t1596 t1597 t1600 _ A5.out).mono ?_); rintro e w31z ⟨v32z,rfl,ho2z,hb⟩; refine ⟨_,rfl,?_⟩; have HO33z:=am (Kd.R_lower (Kd.R_new' (Kd.R_new' (Kd.R_new' ho2z (Kd.R_lt (Kd.R_below HO3z.out pl))) (Kd.R_lt (Kd.R_below HO6z.out pl))) (Kd.R_lt (Kd.R_below HO15z.out pl))) (below_size pB)); replace HO3z:=reR HO3z ho2z hb; replace HO6z:=reR HO6z ho2z hb; replace HO15z:=reR HO15z ho2z hb; replace BK18z:=bb BK18z hb; replace HB:=bS hb; obtain ⟨Ao34z,co35z,eo36z⟩:=Kd.R_slice HO33z.out; subst eo36z) | (refine gL (some 20) Tryz.func56 #[.agg #[.bool t1596,.slice Ao34z t1597.length co35z,.int .i64 t1600]] (h:=?_); (with_reducible refine (dec_Print.calls k t1596 _ _ t1597 t1600 t1601 t1602 _ ?side1 ?side2 A6.out).mono ?_); (case side1=>exact Kd.C_below (Kd.R_reads' HO33z.out).2.2 pl); (case side2=>exact (Kd.R_reads' HO33z.out).2.1); rintro e w37z ⟨rfl,hb⟩; refine ⟨_,rfl,?_⟩; replace HO3z:=rbl HO3z hb; replace HO6z:=rbl HO6z hb; replace HO15z:=rbl HO15z hb; replace HO33z:=rbl HO33z hb; replace BK18z:=bb BK18z hb; replace HB:=bS hb) | (refine gL (some 24) Tryz.func47 #[.int .i64 t1592] (h:=?_); (with_reducible refine (bolterlaw02_num.calls t1592 t1603 _ A7.out).mono ?_); rintro e w' ⟨rfl,⟨nd,rfl⟩⟩; refine ⟨_,rfl,?_⟩) | (refine gL (some 26) Tryz.func47 #[.int .i64 t1595] (h:=?_); (with_reducible refine (bolterlaw02_num.calls t1595 t1604 _ A8.out).mono ?_); rintro e w' ⟨rfl,⟨nd,rfl⟩⟩; refine ⟨_,rfl,?_⟩) | (refine gL (some 29) Tryz.func47 #[.int .i64 t1602] (h:=?_); (with_reducible refine (bolterlaw02_num.calls t1602 t1605 _ A9.out).mono ?_); rintro e w' ⟨rfl,⟨nd,rfl⟩⟩; refine ⟨_,rfl,?_⟩))
 go_ret
 exact ⟨pE,pB⟩) : P:=h
theorem bolterlaw02_alive.calls (k : Nat)  (r : Bool) (w : World) (h : bolterlaw02_alive.f k  = some r) :
  Calls Tryz.prog 41 #[] w fun e w'=>e = .returned (.bool r)/\Below w.heap.size w w':=by
 have hu24:=Tryz.underlying24
 have HB:=am (Below.refl w.heap.size w)
 have H : ((bolterlaw02_Of.f k (⟨#[49,46,53,48]⟩ : ByteArray)).bind fun bt1577=>((bolterlaw02_Of.f k (⟨#[48,46,53]⟩ : ByteArray)).bind fun bt1582=>((dec_Add.f k bt1577.1 bt1577.2.1 bt1577.2.2 bt1582.1 bt1582.2.1 bt1582.2.2).bind fun bt1587=>((dec_Print.f k bt1587.1 bt1587.2.1 bt1587.2.2.1).bind fun bt1594=>((bolterlaw02_Of.f k (⟨#[49,101,51,48]⟩ : ByteArray)).bind fun bt1596=>((dec_Print.f k bt1596.1 bt1596.2.1 bt1596.2.2).bind fun bt1601=>((bolterlaw02_num.f bt1587.2.2.2).bind fun t1603=>((bolterlaw02_num.f bt1594.2).bind fun t1604=>((bolterlaw02_num.f bt1601.2).bind fun t1605=>(if (wrap64 ((wrap64 (t1603 + t1604)) + t1605)) = 0 then (if bt1594.1.toList = ([50] : List UInt8) then (some (bt1601.1.toList == ([49,101,43,51,48] : List UInt8))) else (some false)) else (some false))))))))))) = some r:=h
 clear h
 obtain ⟨⟨t1577,t1578,t1581⟩,A1,H⟩:=ob H; (try dsimp only at H)
 obtain ⟨⟨t1582,t1583,t1586⟩,A2,H⟩:=ob H; (try dsimp only at H)
 obtain ⟨⟨t1587,t1588,t1591,t1592⟩,A3,H⟩:=ob H; (try dsimp only at H)
 obtain ⟨⟨t1594,t1595⟩,A4,H⟩:=ob H; (try dsimp only at H)
 obtain ⟨⟨t1596,t1597,t1600⟩,A5,H⟩:=ob H; (try dsimp only at H)
 obtain ⟨⟨t1601,t1602⟩,A6,H⟩:=ob H; (try dsimp only at H)
 obtain ⟨t1603,A7,H⟩:=ob H
 obtain ⟨t1604,A8,H⟩:=ob H
 obtain ⟨t1605,A9,H⟩:=ob H
 by_cases c10 : (wrap64 ((wrap64 (t1603 + t1604)) + t1605)) = 0
 ·rw [if_pos c10] at H
  have c10b0 : ((wrap64 ((wrap64 (t1603 + t1604)) + t1605)) == 0) = true:=beq_iff_eq.mpr c10
  have c10b1 : ((wrap64 ((wrap64 (t1603 + t1604)) + t1605)) != 0) = false:=bne_eq_false_iff_eq.mpr c10
  clear c10
  by_cases c11 : t1594.toList = ([50] : List UInt8)
  ·rw [if_pos c11] at H
   have c11b0 : (t1594.toList == ([50] : List UInt8)) = true:=beq_iff_eq.mpr c11
   have c11b1 : (t1594.toList != ([50] : List UInt8)) = false:=bne_eq_false_iff_eq.mpr c11
   clear c11
   obtain rfl:=Option.some.inj H
   exact bolterlaw02_alive.leaf
  ·rw [if_neg c11] at H
   have c11b0 : (t1594.toList == ([50] : List UInt8)) = false:=beq_eq_false_iff_ne.mpr c11
   have c11b1 : (t1594.toList != ([50] : List UInt8)) = true:=bne_iff_ne.mpr c11
   obtain rfl:=Option.some.inj H
   exact bolterlaw02_alive.leaf
 ·rw [if_neg c10] at H
  have c10b0 : ((wrap64 ((wrap64 (t1603 + t1604)) + t1605)) == 0) = false:=beq_eq_false_iff_ne.mpr c10
  have c10b1 : ((wrap64 ((wrap64 (t1603 + t1604)) + t1605)) != 0) = true:=bne_iff_ne.mpr c10
  obtain rfl:=Option.some.inj H
  exact bolterlaw02_alive.leaf
end YtjbjkmccfocikaaGreatDoor.B
end
section
namespace YtjbjkmccfocikaaGreatDoor.P.Nm
open Go.RowKit YtjbjkmccfocikaaGreatDoorW.PrintWords YtjbjkmccfocikaaGreatDoor.B YtjbjkmccfocikaaGreatDoor.P
structure RawD (l : List Int) : Prop where
 dg : Dg 4294967296 l
 len : l.length<=9223372036854775807
theorem Add_bad {a b : Bool} {l m : List Int} {e g : Int} (hl : RawD l) (hm : RawD m) (h : ¬ (chk a l e = 0/\chk b m g = 0)) : Tells (fun k=>dec_Add.f k a l e b m g) (false,[],0,9):=by
 unfold dec_Add.f
 have := ask_tells a l e b m g hl.dg hl.len hm.dg hm.len
 rw [if_neg h] at this
 exact this.bind (Tells.ifn (by decide) (Tells.pure _))
theorem RawD.nil : RawD []:=⟨(fun x h=>absurd h (by simp)),(by simp)⟩
theorem Same_self (D : Dm) (h : nd D.n<=1000000) : Tells (fun k=>bolterref02_Same.f k D.neg (limbs D.n) D.e D.neg (limbs D.n) D.e) true:=(Same_D D D h).val (decide_eq_true rfl)
theorem Tells.at {α : Type} {f : Nat->Option α} {v : α} (n : Nat) (h : ∀ k,f (k + n) = some v) : Tells f v:=⟨n,fun k hk=>by
 obtain ⟨j,rfl⟩ : ∃ j,k = j + n:=⟨k - n,by omega⟩
 exact h j⟩
theorem alive02 : Tells (fun k=>bolterlaw02_alive.f k) true:=Tells.at 40 fun k=>by kernel_rfl
end YtjbjkmccfocikaaGreatDoor.P.Nm
end
section
namespace YtjbjkmccfocikaaGreatDoor.B
open Go.RowKit YtjbjkmccfocikaaGreatDoorW.PrintWords YtjbjkmccfocikaaGreatDoorW.PrintLast YtjbjkmccfocikaaGreatDoorW.PrintMore
attribute [local go_sem] max2_int min2_int max_two min_two max_three min_three max_four min_four
def bolterplain_CopyLimbs.f (l0 : List Int) : Option (List Int):=if ([] : List Int).length + l0.length < 35184372088832 then (some (([] : List Int) ++ l0)) else (none)
theorem bolterplain_CopyLimbs.calls (A0 : Option Addr) (c0 : Nat) (l0 : List Int) (r : List Int) (w : World) (hr0 : Kd.C (Kd.int .u32) w A0 l0.length l0) (hc0 : l0.length<=c0) (h : bolterplain_CopyLimbs.f l0 = some r) :
  Calls Tryz.prog 98 #[.slice A0 l0.length c0] w fun e w' => ∃ v0_ : Value,e = .returned (v0_)/\Kd.R (Kd.int .u32) 85 w' w.heap.size (fun _=>True) v0_ r/\Below w.heap.size w w':=by
 have HR0:=am hr0
 have HC0:=am hc0
 clear hr0 hc0
 have HB:=am (Below.refl w.heap.size w)
 have H : (if ([] : List Int).length + l0.length < 35184372088832 then (some (([] : List Int) ++ l0)) else (none)) = some r:=h
 clear h
 by_cases c2 : ([] : List Int).length + l0.length < 35184372088832
 ·rw [if_pos c2] at H
  have LMc2:=am c2
  clear c2
  obtain ⟨y1606,hy1606⟩ : ∃ y_ : List Int,y_ = (([] : List Int) ++ l0):=⟨_,rfl⟩
  replace H : (some y1606) = some r:=by have hy_:=hy1606; exact pH
  have Ny1606:=am hy1606
  clear hy1606
  obtain rfl:=Option.some.inj H
  go_enter Tryz.func98,Tryz.ntmps98
  go_wp2_with (first | ((with_reducible refine gate_builtin (b:=.append) (xs:=#[.tmp 4,.tmp 5]) rfl ?_); at_builtin; refine Kd.R_append_rows (Kd.int .u32) (w0:=w) w.heap.size rfl (.tmp 4) (.tmp 5) 22 85 (.int .u32 0) 4 rfl Tryz.underlying22 info85 rfl (by decide) (by omega) (.slice none 0 0) ([] : List Int) l0 _ _ _ (fun _=>True) (fun _=>False) rfl rfl ?aO ?aR (fun _ _ h=>h) (fun _ h=>h.elim) ?aF ?aB ?aS ?aL ?_; (case aR=>refine cp ?_; exact HR0.out); (case aB=>exact pB); (case aF=>exact (fun _ _=>trivial)); (case aO=>exact ((Kd.R_nil _ _ _ _ (fun _=>True)))); (case aS=>exact (below_size pB)); (case aL=>have := LMc2.out; omega); intro v1607 w3 ho hb hg hat; rw [<- Ny1606.out] at ho; replace HB:=am hb; have HO1608:=am ho; clear ho hb hg hat))
  go_ret
  exact ⟨_,pE,by refine rp ?_; exact HO1608.out,pB⟩
 ·rw [if_neg c2] at H
  exact absurd H (by simp)
def bolterlaw02_own.f (a0_0 : Bool) (l0_1 : List Int) (a0_2 : Int) : Option (Bool × List Int × Int):=(bolterplain_CopyLimbs.f l0_1).bind fun t1611=>(some (a0_0,t1611,a0_2))
theorem bolterlaw02_own.calls (a0_0 : Bool) (A0_1 : Option Addr) (c0_1 : Nat) (l0_1 : List Int) (a0_2 : Int) (r1 : Bool) (r2 : List Int) (r3 : Int) (w : World) (hr0_1 : Kd.C (Kd.int .u32) w A0_1 l0_1.length l0_1) (hc0_1 : l0_1.length<=c0_1) (h : bolterlaw02_own.f a0_0 l0_1 a0_2 = some (r1,r2,r3)) :
  Calls Tryz.prog 42 #[.agg #[.bool a0_0,.slice A0_1 l0_1.length c0_1,.int .i64 a0_2]] w fun e w' => ∃ v1_ : Value,e = .returned (.agg #[.bool r1,v1_,.int .i64 r3])/\Kd.R (Kd.int .u32) 85 w' w.heap.size (fun _=>True) v1_ r2/\Below w.heap.size w w':=by
 have hu24:=Tryz.underlying24
 have HR0_1:=am hr0_1
 have HC0_1:=am hc0_1
 clear hr0_1 hc0_1
 have HB:=am (Below.refl w.heap.size w)
 have H : ((bolterplain_CopyLimbs.f l0_1).bind fun t1611=>(some (a0_0,t1611,a0_2))) = some (r1,r2,r3):=h
 clear h
 obtain ⟨t1611,A2,H⟩:=ob H
 simp only [Option.some.injEq,Prod.mk.injEq] at H
 obtain ⟨rfl,rfl,rfl⟩:=H
 go_enter Tryz.func42,Tryz.ntmps42
 go_wp2_with (first | ((with_reducible refine gd 1 ?_); refine bx 1 #[.bool a0_0,.slice A0_1 l0_1.length c0_1,.int .i64 a0_2] 24 (h:=?_); intro gb1609 hg w3 hbox hb; have BK1609:=am hbox; have GW1609:=gW hg; have GE1609:=gW hg; replace HB:=bS hb; clear hb hbox hg) | ((with_reducible refine gd 2 ?_); refine bx 2 #[.bool false,.slice none 0 0,.int .i64 0] 24 (h:=?_); intro gb1610 hg w4 hbox hb; have BK1610:=am hbox; have GW1610:=gW hg; have GE1610:=gW hg; have NB1609_1610:=nL hg BK1609; have NB1610_1609:=nG hg BK1609; replace BK1609:=bb BK1609 hb; replace HB:=bS hb; clear hb hbox hg; have hnb5:=NB1609_1610.out; have hnc5:=NB1610_1609.out; obtain ⟨hcz6_0,hcz6_1,hcz6_2,hfz6_0,hfz6_1,hfz6_2⟩:=cEc BK1609.out) | (refine gL (some 5) Tryz.func98 #[.slice A0_1 l0_1.length c0_1] (h:=?_); (with_reducible refine (bolterplain_CopyLimbs.calls _ _ l0_1 t1611 _ ?side1 ?side2 A2.out).mono ?_); (case side1=>refine cp ?_; exact (Kd.C_below HR0_1.out HB.out)); (case side2=>exact HC0_1.out); rintro e w7 ⟨v1612,rfl,ho0,hb⟩; refine ⟨_,rfl,?_⟩; have HO1613:=am (Kd.R_lower ho0 (below_size pB)); replace BK1609:=bb BK1609 hb; replace BK1610:=bb BK1610 hb; replace HB:=bS hb; obtain ⟨Ao8,co8,eo8⟩:=Kd.R_slice HO1613.out; subst eo8; obtain ⟨hcz9_0,hcz9_1,hcz9_2,hfz9_0,hfz9_1,hfz9_2⟩:=cEc BK1609.out; obtain ⟨hcz10_0,hcz10_1,hcz10_2,hfz10_0,hfz10_1,hfz10_2⟩:=cEc BK1610.out))
 refine bodyPost_ret (results_cell_row rfl _ _ gb1610 24 #[.bool a0_0,.slice Ao8 t1611.length co8,.int .i64 a0_2] (0,0) _ rfl (by refine bp ?_; refine blk_put (cs:=#[.bool a0_0,.slice Ao8 t1611.length co8,.int .i64 0]) ?_ 2 _ rfl; refine bp ?_; refine blk_put (cs:=#[.bool a0_0,.slice none 0 0,.int .i64 0]) ?_ 1 _ rfl; refine bp ?_; refine blk_put (cs:=#[.bool false,.slice none 0 0,.int .i64 0]) ?_ 0 _ rfl; refine bp ?_; refine blk_far ?_ NB1610_1609.out _; exact bp BK1610.out) Tryz.underlying24 rfl (by kernel_rfl)) rfl ?_
 exact ⟨_,pE,by refine rp ?_; exact Kd.R_mono (Kd.R_far (p:=⟨gb1610,2,none⟩) (Kd.R_far (p:=⟨gb1610,1,none⟩) (Kd.R_far (p:=⟨gb1610,0,none⟩) (Kd.R_far (p:=⟨gb1609,1,none⟩) (Kd.R_types (Kd.R_types HO1613.out BK1609.out (by decide)) BK1610.out (by decide)) (fun _ hk=>hk.1.2) (.slice Ao8 t1611.length co8)) (fun _ hk=>hk.2) (.bool a0_0)) (fun _ hk=>hk.2) (.slice Ao8 t1611.length co8)) (fun _ hk=>hk.2) (.int .i64 a0_2)) (fun _ hk=>trivial),pB⟩
def bolterplain_SpoilLimbs.l0 : Nat->List Int->Int->Option (List Int)
 | 0,_,_=>none
 | k + 1,x0,x2=>if x2 < (x0.length : Int) then (if 0<=x2 then (bolterplain_SpoilLimbs.l0 k (x0.set (x2 : Int).toNat 7) (wrap64 (x2 + 1))) else (none)) else (some x0)
def bolterplain_SpoilLimbs.f (k : Nat) (l0 : List Int) : Option (List Int):=bolterplain_SpoilLimbs.l0 k l0 0
theorem bolterplain_SpoilLimbs.calls (k : Nat) (P0_ : Nat->Prop) (u9000_ : Value) (l0 : List Int) (r : List Int) (w0 w : World) (hB : Below w0.heap.size w0 w) (ho0 : Kd.R (Kd.int .u32) 85 w w0.heap.size P0_ u9000_ l0) (h : bolterplain_SpoilLimbs.f k l0 = some r) :
  Calls Tryz.prog 45 #[u9000_] w fun e w'=>e = .returned (.tuple #[])/\Kd.R (Kd.int .u32) 85 w' w0.heap.size (fun k_=>(P0_ k_\/w.heap.size<=k_)) u9000_ r/\Below w0.heap.size w0 w'/\Kept w w' (fun k_=>P0_ k_):=by
 have HO0:=am (show Kd.R (Kd.int .u32) 85 w w0.heap.size (fun k_=>(P0_ k_\/w.heap.size<=k_)) u9000_ l0 from Kd.R_mono ho0 (fun k_ hk=>(.inl hk)))
 have HK:=am (Kept.refl w (fun k_=>P0_ k_))
 have HW0:=am hB.size
 have HB:=am hB
 clear hB
 have H : (bolterplain_SpoilLimbs.l0 k l0 0) = some r:=h
 clear h
 have H':=am H
 clear H
 go_enter Tryz.func45,Tryz.ntmps45
 go_wp2
 go_loopg [2] k (fun kq v2 w' => ∃ (x0_1 : List Int) (x2_1 : Int),v2 = .int .i64 x2_1/\Aside0 (bolterplain_SpoilLimbs.l0 kq x0_1 x2_1 = some r)/\Aside0 (kq<=k)/\Aside0 (Kd.R (Kd.int .u32) 85 w' w0.heap.size (fun k_=>(P0_ k_\/w.heap.size<=k_)) u9000_ x0_1)/\Aside0 (Kept w w' (fun k_=>P0_ k_))/\Aside0 (Below w0.heap.size w0 w'))
 case atStart=>exact ⟨(l0),(0),pR,H',⟨Nat.le_refl _⟩,⟨by refine rp ?_; exact HO0.out⟩,⟨by repeat (first | (with_reducible first | exact HK.out | apply Kept.alloc | apply Kept.drewN | apply Kept.drew) | exact HK.out)⟩,⟨pB⟩⟩
 case round =>
  clear H'
  obtain ⟨x0_1,x2_1,rfl,HA,HK1,HO_0,HK,HB⟩:=hrel
  cases gk with
  | zero=>exact absurd HA.out (by simp [bolterplain_SpoilLimbs.l0])
  | succ k1 =>
   have H:=HA.out
   clear HA
   simp only [bolterplain_SpoilLimbs.l0] at H
   by_cases c2 : x2_1 < (x0_1.length : Int)
   ·rw [if_pos c2] at H
    have c2b0 : decide (x2_1 < (x0_1.length : Int)) = true:=decide_eq_true c2
    clear c2
    by_cases c3 : 0<=x2_1
    ·rw [if_pos c3] at H
     have c3b0 : decide (0<=x2_1) = true:=decide_eq_true c3
     clear c3
     obtain ⟨y1628,hy1628⟩ : ∃ y_ : List Int,y_ = (x0_1.set (x2_1 : Int).toNat 7):=⟨_,rfl⟩
     replace H : (bolterplain_SpoilLimbs.l0 k1 y1628 (wrap64 (x2_1 + 1))) = some r:=by have hy_:=hy1628; exact pH
     have Ny1628:=am hy1628
     clear hy1628
     have H':=am H
     clear H
     obtain ⟨Ao5,co5,eo5⟩:=Kd.R_slice HO_0.out
     subst eo5
     have p4 : 0<=(x2_1 : Int):=of_decide_eq_true pQ
     have q4 : (x2_1 : Int) < ((x0_1.length : Int) : Int):=of_decide_eq_true pQ
     obtain ⟨go4,co4,eo4,gb4,gl4,cl4,HG4⟩:=Kd.R_form HO_0.out (by omega)
     (first | cases eo4 | (injection eo4 with ea_ en_ ec_; (first | subst ea_ | (injection ea_ with ea_; subst ea_)); subst ec_; clear en_))
     have GB4:=am gb4
     have GG4:=am HG4
     clear gb4 gl4 HG4
     have HMgo4:=am (show (P0_ go4\/w.heap.size<=go4) from (HO_0.out.1 _ rfl))
     obtain ⟨hx4_0,hf4_0⟩:=Kd.R_celln 0 HO_0.out (x2_1 : Int) p4 q4
     replace p4:=eq_true p4
     replace q4:=eq_true q4
     have HP6:=Kd.R_putg HO_0.out (x2_1 : Int) 7
     go_wp2_with (first | ((with_reducible refine gate_store (t:=85) (p:=11) rfl ?_); refine store_event (t:=85) (p:=11) (v:=?vo_w7) (w1:=(wr.setCell ⟨go4,(x2_1 : Int).toNat,none⟩ (.int .u32 7))) ?hg ?ho ?hn ?hr ?_; (case ho=>rfl); (case hg=>rfl); (case hn=>rfl); (case hr=>first | (go_simp; done) | (go_simp; rfl)); intro w7 hw; have hg : wr.grownBy w7 (some go4):=(by rw [hw]; exact HP6.2); have hp_ : Kd.R (Kd.int .u32) 85 w7 w0.heap.size (fun k_=>(P0_ k_\/w.heap.size<=k_)) (.slice (some ⟨go4,0,none⟩) x0_1.length co5) y1628:=(by rw [hw,Ny1628.out]; exact HP6.1); clear HP6; replace HB:=am ((by rw [hw]; exact below_set (HB.out) GB4.out : Below w0.heap.size w0 w7)); replace HK:=am (Kept.of_grown (S:=(fun k_=>P0_ k_)) hg (by repeat (first | (with_reducible first | exact HK.out | apply Kept.alloc | apply Kept.drewN | apply Kept.drew) | exact HK.out)) (fun k_ e_=>(HO_0.out.1 k_ e_))); replace HO_0:=am (hp_); clear hg hw hp_))
     go_roundg k1
     case measure=>have := HK1.out; omega
     case rel=>exact ⟨(y1628),(wrap64 (x2_1 + 1)),pR,H',⟨by have := HK1.out; omega⟩,⟨by refine rp ?_; exact HO_0.out⟩,⟨by repeat (first | (with_reducible first | exact HK.out | apply Kept.alloc | apply Kept.drewN | apply Kept.drew) | exact HK.out)⟩,⟨pB⟩⟩
    ·rw [if_neg c3] at H
     exact absurd H (by simp)
   ·rw [if_neg c2] at H
    have c2b0 : decide (x2_1 < (x0_1.length : Int)) = false:=decide_eq_false c2
    clear c2
    obtain rfl:=Option.some.inj H
    obtain ⟨Ao8,co8,eo8⟩:=Kd.R_slice HO_0.out
    subst eo8
    go_wp2
    first | go_end0 | ((try simp only [Exit.inBlock,Exit.then]); refine bodyPost_ret (results_none rfl _ _ _) rfl ?_)
    exact ⟨pE,by refine rp ?_; exact HO_0.out,pB,by repeat (first | (with_reducible first | exact HK.out | apply Kept.alloc | apply Kept.drewN | apply Kept.drew) | exact HK.out)⟩
def bolterlaw02_DecOwn.f (k : Nat) (a0_0 : Bool) (l0_1 : List Int) (a0_2 : Int) (a1_0 : Bool) (l1_1 : List Int) (a1_2 : Int) : Option (Bool):=(bolterlaw02_alive.f k).bind fun t1650=>(if t1650 = true then ((bolterlaw02_own.f a0_0 l0_1 a0_2).bind fun bt1651=>((bolterlaw02_own.f a1_0 l1_1 a1_2).bind fun bt1656=>((dec_Add.f k bt1651.1 bt1651.2.1 bt1651.2.2 bt1656.1 bt1656.2.1 bt1656.2.2).bind fun bt1663=>((dec_Neg.f k bt1651.1 bt1651.2.1 bt1651.2.2).bind fun bt1670=>((bolterplain_SpoilLimbs.f k bt1651.2.1).bind fun t1677=>((bolterplain_SpoilLimbs.f k bt1656.2.1).bind fun t1678=>((bolterref02_Add.f k a0_0 l0_1 a0_2 a1_0 l1_1 a1_2).bind fun bt1679=>((bolterref02_Neg.f k a0_0 l0_1 a0_2).bind fun bt1686=>((bolterref02_Same.f k bt1663.1 bt1663.2.1 bt1663.2.2.1 bt1679.1 bt1679.2.1 bt1679.2.2.1).bind fun t1693=>(if t1693 = true then ((bolterlaw02_num.f bt1663.2.2.2).bind fun t1694=>(if t1694 = bt1679.2.2.2 then ((bolterref02_Same.f k bt1670.1 bt1670.2.1 bt1670.2.2.1 bt1686.1 bt1686.2.1 bt1686.2.2.1).bind fun t1695=>(if t1695 = true then ((bolterlaw02_num.f bt1670.2.2.2).bind fun t1696=>(some (t1696 == bt1686.2.2.2))) else (some false))) else (some false))) else (some false))))))))))) else (some false))
def bolterlaw02_DecOwn.T3 : Bool × List (List Nat × List Nat):=(true,[([],[]),([0],[0]),([],[]),([2,1],[2]),([],[]),([],[]),([4,1,3,0,1,4,5],[1,4]),([5,3,6,0,1,2,3,4,5,6],[3,5])])
def bolterlaw02_DecOwn.B3 : List Nat:=[0,1,0,7,0,0,63,127]
theorem bolterlaw02_DecOwn.tab3 : rtab .any (opsOf Tryz.f9 3) = bolterlaw02_DecOwn.T3:=by kernel_rfl
theorem bolterlaw02_DecOwn.bits3 : waitsOk bolterlaw02_DecOwn.T3.2 bolterlaw02_DecOwn.B3 = true:=by kernel_rfl
theorem bolterlaw02_DecOwn.calls (k : Nat) (a0_0 : Bool) (A0_1 : Option Addr) (c0_1 : Nat) (l0_1 : List Int) (a0_2 : Int) (a1_0 : Bool) (A1_1 : Option Addr) (c1_1 : Nat) (l1_1 : List Int) (a1_2 : Int) (r : Bool) (w : World) (hr0_1 : Kd.C (Kd.int .u32) w A0_1 l0_1.length l0_1) (hc0_1 : l0_1.length<=c0_1) (hr1_1 : Kd.C (Kd.int .u32) w A1_1 l1_1.length l1_1) (hc1_1 : l1_1.length<=c1_1) (h : bolterlaw02_DecOwn.f k a0_0 l0_1 a0_2 a1_0 l1_1 a1_2 = some r) (hr : r = true) :
  Calls Tryz.prog 9 #[.agg #[.bool a0_0,.slice A0_1 l0_1.length c0_1,.int .i64 a0_2],.agg #[.bool a1_0,.slice A1_1 l1_1.length c1_1,.int .i64 a1_2]] w fun e w'=>e = .returned (.bool r)/\Below w.heap.size w w':=by
 have hu24:=Tryz.underlying24
 have HR0_1:=am hr0_1
 have HC0_1:=am hc0_1
 clear hr0_1 hc0_1
 have HR1_1:=am hr1_1
 have HC1_1:=am hc1_1
 clear hr1_1 hc1_1
 have HB:=am (Below.refl w.heap.size w)
 have H : ((bolterlaw02_alive.f k).bind fun t1650=>(if t1650 = true then ((bolterlaw02_own.f a0_0 l0_1 a0_2).bind fun bt1651=>((bolterlaw02_own.f a1_0 l1_1 a1_2).bind fun bt1656=>((dec_Add.f k bt1651.1 bt1651.2.1 bt1651.2.2 bt1656.1 bt1656.2.1 bt1656.2.2).bind fun bt1663=>((dec_Neg.f k bt1651.1 bt1651.2.1 bt1651.2.2).bind fun bt1670=>((bolterplain_SpoilLimbs.f k bt1651.2.1).bind fun t1677=>((bolterplain_SpoilLimbs.f k bt1656.2.1).bind fun t1678=>((bolterref02_Add.f k a0_0 l0_1 a0_2 a1_0 l1_1 a1_2).bind fun bt1679=>((bolterref02_Neg.f k a0_0 l0_1 a0_2).bind fun bt1686=>((bolterref02_Same.f k bt1663.1 bt1663.2.1 bt1663.2.2.1 bt1679.1 bt1679.2.1 bt1679.2.2.1).bind fun t1693=>(if t1693 = true then ((bolterlaw02_num.f bt1663.2.2.2).bind fun t1694=>(if t1694 = bt1679.2.2.2 then ((bolterref02_Same.f k bt1670.1 bt1670.2.1 bt1670.2.2.1 bt1686.1 bt1686.2.1 bt1686.2.2.1).bind fun t1695=>(if t1695 = true then ((bolterlaw02_num.f bt1670.2.2.2).bind fun t1696=>(some (t1696 == bt1686.2.2.2))) else (some false))) else (some false))) else (some false))))))))))) else (some false))) = some r:=h
 clear h
 obtain ⟨t1650,A3,H⟩:=ob H
 by_cases c4 : t1650 = true
 ·subst c4
  rw [if_pos rfl] at H
  obtain ⟨⟨t1651,t1652,t1655⟩,A5,H⟩:=ob H; (try dsimp only at H)
  obtain ⟨⟨t1656,t1657,t1660⟩,A6,H⟩:=ob H; (try dsimp only at H)
  obtain ⟨⟨t1663,t1664,t1667,t1668⟩,A7,H⟩:=ob H; (try dsimp only at H)
  obtain ⟨⟨t1670,t1671,t1674,t1675⟩,A8,H⟩:=ob H; (try dsimp only at H)
  obtain ⟨t1677,A9,H⟩:=ob H
  obtain ⟨t1678,A10,H⟩:=ob H
  obtain ⟨⟨t1679,t1680,t1683,t1684⟩,A11,H⟩:=ob H; (try dsimp only at H)
  obtain ⟨⟨t1686,t1687,t1690,t1691⟩,A12,H⟩:=ob H; (try dsimp only at H)
  obtain ⟨t1693,A13,H⟩:=ob H
  by_cases c14 : t1693 = true
  ·subst c14
   rw [if_pos rfl] at H
   obtain ⟨t1694,A15,H⟩:=ob H
   by_cases c16 : t1694 = t1684
   ·rw [if_pos c16] at H
    have c16b0 : (t1694 == t1684) = true:=beq_iff_eq.mpr c16
    have c16b1 : (t1694 != t1684) = false:=bne_eq_false_iff_eq.mpr c16
    clear c16
    obtain ⟨t1695,A17,H⟩:=ob H
    by_cases c18 : t1695 = true
    ·subst c18
     rw [if_pos rfl] at H
     obtain ⟨t1696,A19,H⟩:=ob H
     obtain rfl:=Option.some.inj H
     go_enter Tryz.func9,Tryz.ntmps9
     try go_wp2_with (first | ((with_reducible refine gd 2 ?_); refine bx 2 #[.bool a0_0,.slice A0_1 l0_1.length c0_1,.int .i64 a0_2] 24 (h:=?_); intro gb1648 hg w20 hbox hb; have BK1648:=am hbox; have GW1648:=gW hg; have GE1648:=gW hg; replace HB:=bS hb; clear hb hbox hg) | ((with_reducible refine gd 3 ?_); refine bx 3 #[.bool a1_0,.slice A1_1 l1_1.length c1_1,.int .i64 a1_2] 24 (h:=?_); intro gb1649 hg w21 hbox hb; have BK1649:=am hbox; have GW1649:=gW hg; have GE1649:=gW hg; have NB1648_1649:=nL hg BK1648; have NB1649_1648:=nG hg BK1648; replace BK1648:=bb BK1648 hb; replace HB:=bS hb; clear hb hbox hg) | (refine gL (some 15) Tryz.func41 #[] (h:=?_); (with_reducible refine (bolterlaw02_alive.calls k  true _ A3.out).mono ?_); rintro e w22 ⟨rfl,hb⟩; refine ⟨_,rfl,?_⟩; replace BK1648:=bb BK1648 hb; replace BK1649:=bb BK1649 hb; replace HB:=bS hb))
     replace BK1648:=am (blk_drew BK1648.out)
     replace BK1649:=am (blk_drew BK1649.out)
     replace HB:=am (below_drew1 HB.out)
     refine start_ (n:=8) (S:=fun w'=>w'.cell? ⟨gb1648,0,none⟩ = some (.bool a0_0)/\w'.cell? ⟨gb1648,1,none⟩ = some (.slice A0_1 l0_1.length c0_1)/\w'.cell? ⟨gb1648,2,none⟩ = some (.int .i64 a0_2)/\w'.cell? ⟨gb1649,0,none⟩ = some (.bool a1_0)/\w'.cell? ⟨gb1649,1,none⟩ = some (.slice A1_1 l1_1.length c1_1)/\w'.cell? ⟨gb1649,2,none⟩ = some (.int .i64 a1_2)) (ds:=[]) #[false,false,false,false,false,false,false,false] (by kernel_rfl) rfl rfl ⟨k0 BK1648 0,k0 BK1648 1,k0 BK1648 2,k0 BK1649 0,k0 BK1649 1,k0 BK1649 2⟩ (fun hHeld=>?_); refine with_tabW bolterlaw02_DecOwn.tab3 bolterlaw02_DecOwn.bits3 (fun HT_ HW_=>?_)
     generalize w22.drew = w23 at BK1648 BK1649 HB hHeld ⊢
     refine take_ (i:=0) (N:=some 17) (v:=?_) (a':=?_) #[true,false,false,false,false,false,false,false] rfl rfl (take_ofW HT_.out HW_.out (by kernel_rfl)) (fun _ _ _ h=>h) (Or.inl ⟨by rfl,?_⟩) hHeld ?_ ?_
     rotate_left
     ·rintro w' ⟨s0,s1,s2,s3,s4,s5⟩
      go_simp
      with_reducible rfl
     rotate_left
     ·exact pP
     refine take_ (i:=2) (N:=some 19) (v:=?_) (a':=?_) #[true,false,true,false,false,false,false,false] rfl rfl (take_ofW HT_.out HW_.out (by kernel_rfl)) (fun _ _ _ h=>h) (Or.inl ⟨by rfl,?_⟩) hHeld ?_ ?_
     rotate_left
     ·rintro w' ⟨s0,s1,s2,s3,s4,s5⟩
      go_simp
      with_reducible rfl
     rotate_left
     ·exact pP
     refine join_ (σ:=Value × Value × Nat × Nat) 2 #[true,true,true,true,true,true,false,false] (fun s_=>[(18,.agg #[.bool t1651,s_.1,.int .i64 t1655]),(20,.agg #[.bool t1656,s_.2.1,.int .i64 t1660]),(5,.pointer (some ⟨s_.2.2.1,0,none⟩)),(6,.pointer (some ⟨s_.2.2.2,0,none⟩))]) (fun s_ w'=>(w'.cell? ⟨gb1648,0,none⟩ = some (.bool a0_0)/\w'.cell? ⟨gb1648,1,none⟩ = some (.slice A0_1 l0_1.length c0_1)/\w'.cell? ⟨gb1648,2,none⟩ = some (.int .i64 a0_2)/\w'.cell? ⟨gb1649,0,none⟩ = some (.bool a1_0)/\w'.cell? ⟨gb1649,1,none⟩ = some (.slice A1_1 l1_1.length c1_1)/\w'.cell? ⟨gb1649,2,none⟩ = some (.int .i64 a1_2))/\(Kd.R (Kd.int .u32) 85 w' w.heap.size (fun k_=>some k_ ≠ (s_.2.1 : Value).ownBlock) s_.1 t1652)/\(Kd.R (Kd.int .u32) 85 w' w.heap.size (fun k_=>some k_ ≠ (s_.1 : Value).ownBlock) s_.2.1 t1657)/\(w'.heap[gb1648]? = some (.cells #[.bool a0_0,.slice A0_1 l0_1.length c0_1,.int .i64 a0_2] 24 (0,0)))/\(w'.heap[gb1649]? = some (.cells #[.bool a1_0,.slice A1_1 l1_1.length c1_1,.int .i64 a1_2] 24 (0,0)))/\(w'.heap[s_.2.2.1]? = some (.cells #[.bool false,.slice none 0 0,.int .i64 0] 24 (0,0)))/\(w'.heap[s_.2.2.2]? = some (.cells #[.bool false,.slice none 0 0,.int .i64 0] 24 (0,0)))/\(w.heap.size<=s_.2.2.1)/\(w.heap.size<=s_.2.2.1)/\(gb1648 ≠ s_.2.2.1)/\(s_.2.2.1 ≠ gb1648)/\(gb1649 ≠ s_.2.2.1)/\(s_.2.2.1 ≠ gb1649)/\(s_.2.2.2 ≠ s_.2.2.1)/\(s_.2.2.1 ≠ s_.2.2.2)/\(w.heap.size<=s_.2.2.2)/\(w.heap.size<=s_.2.2.2)/\(gb1648 ≠ s_.2.2.2)/\(s_.2.2.2 ≠ gb1648)/\(gb1649 ≠ s_.2.2.2)/\(s_.2.2.2 ≠ gb1649)/\(Below w.heap.size w w')) ?_ ?_
     rotate_left
     ·intro hJ1_3_4_5
      refine pair2 1 3 4 5 18 20 5 6 w.heap.size (.bool t1651) (.int .i64 t1655) (.bool t1656) (.int .i64 t1660) #[.bool false,.slice none 0 0,.int .i64 0] 24 (below_size HB.out) (fun w_ hb_=>⟨k0 (bb BK1648 hb_) 0,k0 (bb BK1648 hb_) 1,k0 (bb BK1648 hb_) 2,k0 (bb BK1649 hb_) 0,k0 (bb BK1649 hb_) 1,k0 (bb BK1649 hb_) 2⟩) (fun f_ w_ hb_ K_ hK_=>?_) (fun f_ w_ hb_ K_ hK_=>?_) (fun u1_ u3_ g4_ g5_ w_ hb_ r1_ r2_ q4_ q5_ m4_ m5_ hne_=>hJ1_3_4_5 (u1_,u3_,g4_,g5_) _ ⟨⟨k0 (bb BK1648 hb_) 0,k0 (bb BK1648 hb_) 1,k0 (bb BK1648 hb_) 2,k0 (bb BK1649 hb_) 0,k0 (bb BK1649 hb_) 1,k0 (bb BK1649 hb_) 2⟩,r1_,r2_,(bb BK1648 hb_).out,(bb BK1649 hb_).out,q4_,q5_,(Nat.le_trans (below_size HB.out) m4_),(Nat.le_trans (below_size HB.out) m4_),(nW BK1648 m4_),(nV BK1648 m4_),(nW BK1649 m4_),(nV BK1649 m4_),hne_.symm,hne_,(Nat.le_trans (below_size HB.out) m5_),(Nat.le_trans (below_size HB.out) m5_),(nW BK1648 m5_),(nV BK1648 m5_),(nW BK1649 m5_),(nV BK1649 m5_),(bS hb_).out⟩)
      ·have HB:=bS hb_
       refine goes_ Tryz.func42 (by kernel_rfl) rfl #[.agg #[.bool a0_0,.slice A0_1 l0_1.length c0_1,.int .i64 a0_2]] (by rfl) rfl rfl pA ?_
       with_reducible refine (bolterlaw02_own.calls a0_0 _ _ l0_1 a0_2 t1651 t1652 t1655 _ ?side1 ?side2 A5.out).mono ?_
       (case side1=>refine cp ?_; exact (Kd.C_below HR0_1.out HB.out))
       (case side2=>exact HC0_1.out)
       rintro e w24 ⟨v1653,rfl,ho0,hb2_⟩
       exact ⟨_,rfl,hK_ v1653 _ _ ho0 hb2_⟩
      ·have HB:=bS hb_
       refine goes_ Tryz.func42 (by kernel_rfl) rfl #[.agg #[.bool a1_0,.slice A1_1 l1_1.length c1_1,.int .i64 a1_2]] (by rfl) rfl rfl pA ?_
       with_reducible refine (bolterlaw02_own.calls a1_0 _ _ l1_1 a1_2 t1656 t1657 t1660 _ ?side1 ?side2 A6.out).mono ?_
       (case side1=>refine cp ?_; exact (Kd.C_below HR1_1.out HB.out))
       (case side2=>exact HC1_1.out)
       rintro e w26 ⟨v1658,rfl,ho0,hb2_⟩
       exact ⟨_,rfl,hK_ v1658 _ _ ho0 hb2_⟩
     rintro ⟨v1653,v1658,gb1661,gb1662⟩ w28 ⟨hS_,h0_,h1_,h2_,h3_,h4_,h5_,h6_,h7_,h8_,h9_,h10_,h11_,h12_,h13_,h14_,h15_,h16_,h17_,h18_,h19_,h20_⟩
     have HO1654 : Aside0 (Kd.R (Kd.int .u32) 85 w28 w.heap.size (fun k_=>some k_ ≠ (v1658 : Value).ownBlock) v1653 t1652):=⟨h0_⟩
     have HO1659 : Aside0 (Kd.R (Kd.int .u32) 85 w28 w.heap.size (fun k_=>some k_ ≠ (v1653 : Value).ownBlock) v1658 t1657):=⟨h1_⟩
     have BK1661 : Aside0 (w28.heap[gb1661]? = some (.cells #[.bool false,.slice none 0 0,.int .i64 0] 24 (0,0))):=⟨h4_⟩
     have BK1662 : Aside0 (w28.heap[gb1662]? = some (.cells #[.bool false,.slice none 0 0,.int .i64 0] 24 (0,0))):=⟨h5_⟩
     have GW1661 : Aside0 (w.heap.size<=gb1661):=⟨h6_⟩
     have GE1661 : Aside0 (w.heap.size<=gb1661):=⟨h7_⟩
     have NB1648_1661 : Aside0 (gb1648 ≠ gb1661):=⟨h8_⟩
     have NB1661_1648 : Aside0 (gb1661 ≠ gb1648):=⟨h9_⟩
     have NB1649_1661 : Aside0 (gb1649 ≠ gb1661):=⟨h10_⟩
     have NB1661_1649 : Aside0 (gb1661 ≠ gb1649):=⟨h11_⟩
     have NB1662_1661 : Aside0 (gb1662 ≠ gb1661):=⟨h12_⟩
     have NB1661_1662 : Aside0 (gb1661 ≠ gb1662):=⟨h13_⟩
     have GW1662 : Aside0 (w.heap.size<=gb1662):=⟨h14_⟩
     have GE1662 : Aside0 (w.heap.size<=gb1662):=⟨h15_⟩
     have NB1648_1662 : Aside0 (gb1648 ≠ gb1662):=⟨h16_⟩
     have NB1662_1648 : Aside0 (gb1662 ≠ gb1648):=⟨h17_⟩
     have NB1649_1662 : Aside0 (gb1649 ≠ gb1662):=⟨h18_⟩
     have NB1662_1649 : Aside0 (gb1662 ≠ gb1649):=⟨h19_⟩
     replace BK1648 : Aside0 (w28.heap[gb1648]? = some (.cells #[.bool a0_0,.slice A0_1 l0_1.length c0_1,.int .i64 a0_2] 24 (0,0))):=⟨h2_⟩
     replace BK1649 : Aside0 (w28.heap[gb1649]? = some (.cells #[.bool a1_0,.slice A1_1 l1_1.length c1_1,.int .i64 a1_2] 24 (0,0))):=⟨h3_⟩
     replace HB : Aside0 (Below w.heap.size w w28):=⟨h20_⟩
     clear h0_ h1_ h2_ h3_ h4_ h5_ h6_ h7_ h8_ h9_ h10_ h11_ h12_ h13_ h14_ h15_ h16_ h17_ h18_ h19_ h20_
     have hHeld : w28.cell? ⟨gb1648,0,none⟩ = some (.bool a0_0)/\w28.cell? ⟨gb1648,1,none⟩ = some (.slice A0_1 l0_1.length c0_1)/\w28.cell? ⟨gb1648,2,none⟩ = some (.int .i64 a0_2)/\w28.cell? ⟨gb1649,0,none⟩ = some (.bool a1_0)/\w28.cell? ⟨gb1649,1,none⟩ = some (.slice A1_1 l1_1.length c1_1)/\w28.cell? ⟨gb1649,2,none⟩ = some (.int .i64 a1_2):=hS_
     obtain ⟨Ao30,co30,eo30⟩:=Kd.R_slice HO1654.out
     (first | subst eo30 | (injection eo30 with f1_ f2_ f3_; have f4_:=f1_.symm; have f5_:=f3_.symm; clear f1_ f2_ f3_; subst f4_; subst f5_))
     obtain ⟨Ao34,co34,eo34⟩:=Kd.R_slice HO1659.out
     (first | subst eo34 | (injection eo34 with f1_ f2_ f3_; have f4_:=f1_.symm; have f5_:=f3_.symm; clear f1_ f2_ f3_; subst f4_; subst f5_))
     refine norm_ (a':=?_) ?_ ?_
     rotate_left
     ·simp only [putAll,Act.put,List.setIfInBounds_toArray,List.set_cons_zero,List.set_cons_succ]
      rfl
     refine one_ (i:=6) (N:=none) #[true,true,true,true,true,true,true,false] rfl rfl (one_of HT_.out (by kernel_rfl)) (by decide) (fun K hK=>?_)
     have hs29 : w28.cell? ⟨gb1661,0,none⟩ = some (.bool false):=k0 BK1661 0
     have hfs29:=blk_frozen BK1661.out 0
     have hns29_0:=NB1648_1661.out
     have hns29_1:=NB1649_1661.out
     have hns29_3:=NB1662_1661.out
     have hms29_0:=NB1661_1648.out
     have hms29_1:=NB1661_1649.out
     have hms29_3:=NB1661_1662.out
     have hs31 : w28.cell? ⟨gb1661,1,none⟩ = some (.slice none 0 0):=k0 BK1661 1
     have hfs31:=blk_frozen BK1661.out 1
     have hns31_0:=NB1648_1661.out
     have hns31_1:=NB1649_1661.out
     have hns31_3:=NB1662_1661.out
     have hms31_0:=NB1661_1648.out
     have hms31_1:=NB1661_1649.out
     have hms31_3:=NB1661_1662.out
     have hs32 : w28.cell? ⟨gb1661,2,none⟩ = some (.int .i64 0):=k0 BK1661 2
     have hfs32:=blk_frozen BK1661.out 2
     have hns32_0:=NB1648_1661.out
     have hns32_1:=NB1649_1661.out
     have hns32_3:=NB1662_1661.out
     have hms32_0:=NB1661_1648.out
     have hms32_1:=NB1661_1649.out
     have hms32_3:=NB1661_1662.out
     refine skip_ (w1:=?_) (by rfl) rfl ?_ ?_
     rotate_left
     ·go_simp
      rfl
     refine hK.out _ _ ⟨((cell_far (p:=⟨gb1661,_,none⟩) NB1648_1661.out _).trans (((cell_far (p:=⟨gb1661,_,none⟩) NB1648_1661.out _).trans (((cell_far (p:=⟨gb1661,_,none⟩) NB1648_1661.out _).trans (hHeld.1)))))),((cell_far (p:=⟨gb1661,_,none⟩) NB1648_1661.out _).trans (((cell_far (p:=⟨gb1661,_,none⟩) NB1648_1661.out _).trans (((cell_far (p:=⟨gb1661,_,none⟩) NB1648_1661.out _).trans (hHeld.2.1)))))),((cell_far (p:=⟨gb1661,_,none⟩) NB1648_1661.out _).trans (((cell_far (p:=⟨gb1661,_,none⟩) NB1648_1661.out _).trans (((cell_far (p:=⟨gb1661,_,none⟩) NB1648_1661.out _).trans (hHeld.2.2.1)))))),((cell_far (p:=⟨gb1661,_,none⟩) NB1649_1661.out _).trans (((cell_far (p:=⟨gb1661,_,none⟩) NB1649_1661.out _).trans (((cell_far (p:=⟨gb1661,_,none⟩) NB1649_1661.out _).trans (hHeld.2.2.2.1)))))),((cell_far (p:=⟨gb1661,_,none⟩) NB1649_1661.out _).trans (((cell_far (p:=⟨gb1661,_,none⟩) NB1649_1661.out _).trans (((cell_far (p:=⟨gb1661,_,none⟩) NB1649_1661.out _).trans (hHeld.2.2.2.2.1)))))),((cell_far (p:=⟨gb1661,_,none⟩) NB1649_1661.out _).trans (((cell_far (p:=⟨gb1661,_,none⟩) NB1649_1661.out _).trans (((cell_far (p:=⟨gb1661,_,none⟩) NB1649_1661.out _).trans (hHeld.2.2.2.2.2))))))⟩ (fun hHeld=>?_)
     clear hK K
     refine one_ (i:=7) (N:=none) #[true,true,true,true,true,true,true,true] rfl rfl (one_of HT_.out (by kernel_rfl)) (by decide) (fun K hK=>?_)
     have hs33 : w28.cell? ⟨gb1662,0,none⟩ = some (.bool false):=k0 BK1662 0
     have hfs33:=blk_frozen BK1662.out 0
     have hns33_0:=NB1648_1662.out
     have hns33_1:=NB1649_1662.out
     have hns33_2:=NB1661_1662.out
     have hms33_0:=NB1662_1648.out
     have hms33_1:=NB1662_1649.out
     have hms33_2:=NB1662_1661.out
     have hs35 : w28.cell? ⟨gb1662,1,none⟩ = some (.slice none 0 0):=k0 BK1662 1
     have hfs35:=blk_frozen BK1662.out 1
     have hns35_0:=NB1648_1662.out
     have hns35_1:=NB1649_1662.out
     have hns35_2:=NB1661_1662.out
     have hms35_0:=NB1662_1648.out
     have hms35_1:=NB1662_1649.out
     have hms35_2:=NB1662_1661.out
     have hs36 : w28.cell? ⟨gb1662,2,none⟩ = some (.int .i64 0):=k0 BK1662 2
     have hfs36:=blk_frozen BK1662.out 2
     have hns36_0:=NB1648_1662.out
     have hns36_1:=NB1649_1662.out
     have hns36_2:=NB1661_1662.out
     have hms36_0:=NB1662_1648.out
     have hms36_1:=NB1662_1649.out
     have hms36_2:=NB1662_1661.out
     refine skip_ (w1:=?_) (by rfl) rfl ?_ ?_
     rotate_left
     ·go_simp
      rfl
     refine hK.out _ _ ⟨((cell_far (p:=⟨gb1662,_,none⟩) NB1648_1662.out _).trans (((cell_far (p:=⟨gb1662,_,none⟩) NB1648_1662.out _).trans (((cell_far (p:=⟨gb1662,_,none⟩) NB1648_1662.out _).trans (hHeld.1)))))),((cell_far (p:=⟨gb1662,_,none⟩) NB1648_1662.out _).trans (((cell_far (p:=⟨gb1662,_,none⟩) NB1648_1662.out _).trans (((cell_far (p:=⟨gb1662,_,none⟩) NB1648_1662.out _).trans (hHeld.2.1)))))),((cell_far (p:=⟨gb1662,_,none⟩) NB1648_1662.out _).trans (((cell_far (p:=⟨gb1662,_,none⟩) NB1648_1662.out _).trans (((cell_far (p:=⟨gb1662,_,none⟩) NB1648_1662.out _).trans (hHeld.2.2.1)))))),((cell_far (p:=⟨gb1662,_,none⟩) NB1649_1662.out _).trans (((cell_far (p:=⟨gb1662,_,none⟩) NB1649_1662.out _).trans (((cell_far (p:=⟨gb1662,_,none⟩) NB1649_1662.out _).trans (hHeld.2.2.2.1)))))),((cell_far (p:=⟨gb1662,_,none⟩) NB1649_1662.out _).trans (((cell_far (p:=⟨gb1662,_,none⟩) NB1649_1662.out _).trans (((cell_far (p:=⟨gb1662,_,none⟩) NB1649_1662.out _).trans (hHeld.2.2.2.2.1)))))),((cell_far (p:=⟨gb1662,_,none⟩) NB1649_1662.out _).trans (((cell_far (p:=⟨gb1662,_,none⟩) NB1649_1662.out _).trans (((cell_far (p:=⟨gb1662,_,none⟩) NB1649_1662.out _).trans (hHeld.2.2.2.2.2))))))⟩ (fun hHeld=>?_)
     clear hK K
     refine done_ (done_of HT_.out (by kernel_rfl)) ?_
     have n0_ : Aside0 (Kd.R (Kd.int .u32) 85 ((((((w28.setCell ⟨gb1661,0,none⟩ (.bool t1651)).setCell ⟨gb1661,1,none⟩ (.slice Ao30 t1652.length co30)).setCell ⟨gb1661,2,none⟩ (.int .i64 t1655)).setCell ⟨gb1662,0,none⟩ (.bool t1656)).setCell ⟨gb1662,1,none⟩ (.slice Ao34 t1657.length co34)).setCell ⟨gb1662,2,none⟩ (.int .i64 t1660)) w.heap.size (fun k_=>some k_ ≠ (.slice Ao34 t1657.length co34 : Value).ownBlock) (.slice Ao30 t1652.length co30) t1652):=⟨by refine rp ?_; exact Kd.R_mono (Kd.R_far (p:=⟨gb1662,2,none⟩) (Kd.R_far (p:=⟨gb1662,1,none⟩) (Kd.R_far (p:=⟨gb1662,0,none⟩) (Kd.R_far (p:=⟨gb1661,2,none⟩) (Kd.R_far (p:=⟨gb1661,1,none⟩) (Kd.R_far (p:=⟨gb1661,0,none⟩) (Kd.R_types (Kd.R_types HO1654.out BK1661.out (by decide)) BK1662.out (by decide)) (fun _ hk=>hk.1.2) (.bool t1651)) (fun _ hk=>hk.1.2) (.slice Ao30 t1652.length co30)) (fun _ hk=>hk.1.2) (.int .i64 t1655)) (fun _ hk=>hk.2) (.bool t1656)) (fun _ hk=>hk.2) (.slice Ao34 t1657.length co34)) (fun _ hk=>hk.2) (.int .i64 t1660)) (fun _ hk=>hk.1.1)⟩
     have n1_ : Aside0 (Kd.R (Kd.int .u32) 85 ((((((w28.setCell ⟨gb1661,0,none⟩ (.bool t1651)).setCell ⟨gb1661,1,none⟩ (.slice Ao30 t1652.length co30)).setCell ⟨gb1661,2,none⟩ (.int .i64 t1655)).setCell ⟨gb1662,0,none⟩ (.bool t1656)).setCell ⟨gb1662,1,none⟩ (.slice Ao34 t1657.length co34)).setCell ⟨gb1662,2,none⟩ (.int .i64 t1660)) w.heap.size (fun k_=>some k_ ≠ (.slice Ao30 t1652.length co30 : Value).ownBlock) (.slice Ao34 t1657.length co34) t1657):=⟨by refine rp ?_; exact Kd.R_mono (Kd.R_far (p:=⟨gb1662,2,none⟩) (Kd.R_far (p:=⟨gb1662,1,none⟩) (Kd.R_far (p:=⟨gb1662,0,none⟩) (Kd.R_far (p:=⟨gb1661,2,none⟩) (Kd.R_far (p:=⟨gb1661,1,none⟩) (Kd.R_far (p:=⟨gb1661,0,none⟩) (Kd.R_types (Kd.R_types HO1659.out BK1661.out (by decide)) BK1662.out (by decide)) (fun _ hk=>hk.1.2) (.bool t1651)) (fun _ hk=>hk.1.2) (.slice Ao30 t1652.length co30)) (fun _ hk=>hk.1.2) (.int .i64 t1655)) (fun _ hk=>hk.2) (.bool t1656)) (fun _ hk=>hk.2) (.slice Ao34 t1657.length co34)) (fun _ hk=>hk.2) (.int .i64 t1660)) (fun _ hk=>hk.1.1)⟩
     have n2_ : Aside0 (((((((w28.setCell ⟨gb1661,0,none⟩ (.bool t1651)).setCell ⟨gb1661,1,none⟩ (.slice Ao30 t1652.length co30)).setCell ⟨gb1661,2,none⟩ (.int .i64 t1655)).setCell ⟨gb1662,0,none⟩ (.bool t1656)).setCell ⟨gb1662,1,none⟩ (.slice Ao34 t1657.length co34)).setCell ⟨gb1662,2,none⟩ (.int .i64 t1660)).heap[gb1648]? = some (.cells #[.bool a0_0,.slice A0_1 l0_1.length c0_1,.int .i64 a0_2] 24 (0,0))):=⟨by refine bp ?_; refine blk_far ?_ NB1648_1662.out _; refine bp ?_; refine blk_far ?_ NB1648_1662.out _; refine bp ?_; refine blk_far ?_ NB1648_1662.out _; refine bp ?_; refine blk_far ?_ NB1648_1661.out _; refine bp ?_; refine blk_far ?_ NB1648_1661.out _; refine bp ?_; refine blk_far ?_ NB1648_1661.out _; exact bp BK1648.out⟩
     have n3_ : Aside0 (((((((w28.setCell ⟨gb1661,0,none⟩ (.bool t1651)).setCell ⟨gb1661,1,none⟩ (.slice Ao30 t1652.length co30)).setCell ⟨gb1661,2,none⟩ (.int .i64 t1655)).setCell ⟨gb1662,0,none⟩ (.bool t1656)).setCell ⟨gb1662,1,none⟩ (.slice Ao34 t1657.length co34)).setCell ⟨gb1662,2,none⟩ (.int .i64 t1660)).heap[gb1649]? = some (.cells #[.bool a1_0,.slice A1_1 l1_1.length c1_1,.int .i64 a1_2] 24 (0,0))):=⟨by refine bp ?_; refine blk_far ?_ NB1649_1662.out _; refine bp ?_; refine blk_far ?_ NB1649_1662.out _; refine bp ?_; refine blk_far ?_ NB1649_1662.out _; refine bp ?_; refine blk_far ?_ NB1649_1661.out _; refine bp ?_; refine blk_far ?_ NB1649_1661.out _; refine bp ?_; refine blk_far ?_ NB1649_1661.out _; exact bp BK1649.out⟩
     have n4_ : Aside0 (((((((w28.setCell ⟨gb1661,0,none⟩ (.bool t1651)).setCell ⟨gb1661,1,none⟩ (.slice Ao30 t1652.length co30)).setCell ⟨gb1661,2,none⟩ (.int .i64 t1655)).setCell ⟨gb1662,0,none⟩ (.bool t1656)).setCell ⟨gb1662,1,none⟩ (.slice Ao34 t1657.length co34)).setCell ⟨gb1662,2,none⟩ (.int .i64 t1660)).heap[gb1661]? = some (.cells #[.bool t1651,.slice Ao30 t1652.length co30,.int .i64 t1655] 24 (0,0))):=⟨by refine bp ?_; refine blk_far ?_ NB1661_1662.out _; refine bp ?_; refine blk_far ?_ NB1661_1662.out _; refine bp ?_; refine blk_far ?_ NB1661_1662.out _; exact p3 BK1661⟩
     have n5_ : Aside0 (((((((w28.setCell ⟨gb1661,0,none⟩ (.bool t1651)).setCell ⟨gb1661,1,none⟩ (.slice Ao30 t1652.length co30)).setCell ⟨gb1661,2,none⟩ (.int .i64 t1655)).setCell ⟨gb1662,0,none⟩ (.bool t1656)).setCell ⟨gb1662,1,none⟩ (.slice Ao34 t1657.length co34)).setCell ⟨gb1662,2,none⟩ (.int .i64 t1660)).heap[gb1662]? = some (.cells #[.bool t1656,.slice Ao34 t1657.length co34,.int .i64 t1660] 24 (0,0))):=⟨by refine bp ?_; refine blk_put (cs:=#[.bool t1656,.slice Ao34 t1657.length co34,.int .i64 0]) ?_ 2 _ rfl; refine bp ?_; refine blk_put (cs:=#[.bool t1656,.slice none 0 0,.int .i64 0]) ?_ 1 _ rfl; refine bp ?_; refine blk_put (cs:=#[.bool false,.slice none 0 0,.int .i64 0]) ?_ 0 _ rfl; refine bp ?_; refine blk_far ?_ NB1662_1661.out _; refine bp ?_; refine blk_far ?_ NB1662_1661.out _; refine bp ?_; refine blk_far ?_ NB1662_1661.out _; exact bp BK1662.out⟩
     have n6_ : Aside0 (Below w.heap.size w ((((((w28.setCell ⟨gb1661,0,none⟩ (.bool t1651)).setCell ⟨gb1661,1,none⟩ (.slice Ao30 t1652.length co30)).setCell ⟨gb1661,2,none⟩ (.int .i64 t1655)).setCell ⟨gb1662,0,none⟩ (.bool t1656)).setCell ⟨gb1662,1,none⟩ (.slice Ao34 t1657.length co34)).setCell ⟨gb1662,2,none⟩ (.int .i64 t1660))):=⟨pB⟩
     generalize ((((((w28.setCell ⟨gb1661,0,none⟩ (.bool t1651)).setCell ⟨gb1661,1,none⟩ (.slice Ao30 t1652.length co30)).setCell ⟨gb1661,2,none⟩ (.int .i64 t1655)).setCell ⟨gb1662,0,none⟩ (.bool t1656)).setCell ⟨gb1662,1,none⟩ (.slice Ao34 t1657.length co34)).setCell ⟨gb1662,2,none⟩ (.int .i64 t1660)) = w37 at n0_ n1_ n2_ n3_ n4_ n5_ n6_ ⊢
     have HO1654:=n0_
     have HO1659:=n1_
     have BK1648:=n2_
     have BK1649:=n3_
     have BK1661:=n4_
     have BK1662:=n5_
     have HB:=n6_
     clear n0_ n1_ n2_ n3_ n4_ n5_ n6_
     have hnb38:=NB1661_1648.out
     have hnc38:=NB1648_1661.out
     have hnb39:=NB1661_1649.out
     have hnc39:=NB1649_1661.out
     have hnb40:=NB1661_1662.out
     have hnc40:=NB1662_1661.out
     obtain ⟨hcz41_0,hcz41_1,hcz41_2,hfz41_0,hfz41_1,hfz41_2⟩:=cEc BK1661.out
     have hnb42:=NB1662_1648.out
     have hnc42:=NB1648_1662.out
     have hnb43:=NB1662_1649.out
     have hnc43:=NB1649_1662.out
     obtain ⟨hcz44_0,hcz44_1,hcz44_2,hfz44_0,hfz44_1,hfz44_2⟩:=cEc BK1662.out
     try go_wp2_with (first | (refine gL (some 24) Tryz.func43 #[.agg #[.bool t1651,.slice Ao30 t1652.length co30,.int .i64 t1655],.agg #[.bool t1656,.slice Ao34 t1657.length co34,.int .i64 t1660]] (h:=?_); (with_reducible refine (dec_Add.calls k t1651 (fun k_=>some k_ = (.slice Ao30 t1652.length co30 : Value).ownBlock) _ _ t1652 t1655 t1656 (fun k_=>some k_ = (.slice Ao34 t1657.length co34 : Value).ownBlock) _ _ t1657 t1660 t1663 t1664 t1667 t1668 _ ?side1 ?side2 A7.out).mono ?_); (case side1=>exact Kd.R_V (Kd.R_tight rfl (Kd.R_types (Kd.R_types (Kd.R_types (Kd.R_types (HO1654.out) BK1648.out (by decide)) BK1649.out (by decide)) BK1661.out (by decide)) BK1662.out (by decide)))); (case side2=>exact Kd.R_V (Kd.R_tight rfl (Kd.R_types (Kd.R_types (Kd.R_types (Kd.R_types (HO1659.out) BK1648.out (by decide)) BK1649.out (by decide)) BK1661.out (by decide)) BK1662.out (by decide)))); rintro e w45 ⟨v1665,rfl,ho0,hb⟩; refine ⟨_,rfl,?_⟩; have HO1666:=am (Kd.R_lower (Kd.R_new' (Kd.R_new' (Kd.R_mono (ok':=fun k_=>True) ho0 (fun _ hk_=>trivial)) (Kd.R_lt (Kd.R_below HO1654.out pl))) (Kd.R_lt (Kd.R_below HO1659.out pl))) (below_size pB)); replace HO1654:=reR HO1654 ho0 hb; replace HO1659:=reR HO1659 ho0 hb; replace BK1648:=bb BK1648 hb; replace BK1649:=bb BK1649 hb; replace BK1661:=bb BK1661 hb; replace BK1662:=bb BK1662 hb; replace HB:=bS hb) | ((with_reducible refine gd 7 ?_); refine bx 7 #[.bool false,.slice none 0 0,.int .i64 0] 24 (h:=?_); intro gb1669 hg w46 hbox hb; have BK1669:=am hbox; have GW1669:=gW hg; have GE1669:=gW hg; have NB1648_1669:=nL hg BK1648; have NB1669_1648:=nG hg BK1648; have NB1649_1669:=nL hg BK1649; have NB1669_1649:=nG hg BK1649; have NB1661_1669:=nL hg BK1661; have NB1669_1661:=nG hg BK1661; have NB1662_1669:=nL hg BK1662; have NB1669_1662:=nG hg BK1662; replace HO1654:=rbl HO1654 hb; replace HO1659:=rbl HO1659 hb; replace HO1666:=rbl HO1666 hb; replace BK1648:=bb BK1648 hb; replace BK1649:=bb BK1649 hb; replace BK1661:=bb BK1661 hb; replace BK1662:=bb BK1662 hb; replace HB:=bS hb; clear hb hbox hg; have hnb47:=NB1669_1648.out; have hnc47:=NB1648_1669.out; have hnb48:=NB1669_1649.out; have hnc48:=NB1649_1669.out; have hnb49:=NB1669_1661.out; have hnc49:=NB1661_1669.out; have hnb50:=NB1669_1662.out; have hnc50:=NB1662_1669.out; obtain ⟨hcz51_0,hcz51_1,hcz51_2,hfz51_0,hfz51_1,hfz51_2⟩:=cEc BK1669.out; obtain ⟨Ao52,co52,eo52⟩:=Kd.R_slice HO1666.out; subst eo52; obtain ⟨hcz53_0,hcz53_1,hcz53_2,hfz53_0,hfz53_1,hfz53_2⟩:=cEc BK1661.out) | (refine gL (some 29) Tryz.func44 #[.agg #[.bool t1651,.slice Ao30 t1652.length co30,.int .i64 t1655]] (h:=?_); (with_reducible refine (dec_Neg.calls k t1651 _ _ t1652 t1655 t1670 t1671 t1674 t1675 _ ?side1 ?side2 A8.out).mono ?_); (case side1=>refine (Kd.R_reads' (e:=85) (base:=w.heap.size) (ok:=fun k_=>(some k_ ≠ (.slice Ao34 t1657.length co34 : Value).ownBlock/\some k_ ≠ (.slice Ao52 t1664.length co52 : Value).ownBlock)) (n:=t1652.length) (c:=co30) ?_).2.2; exact (Kd.R_below (z3 HO1654.out BK1669.out (by decide) (.bool t1663) (.slice Ao52 t1664.length co52) (.int .i64 t1667)) pl)); (case side2=>exact (Kd.R_reads' HO1654.out).2.1); rintro e w54 ⟨v1672,rfl,ho0,hb⟩; refine ⟨_,rfl,?_⟩; have HO1673:=am (Kd.V_lower (Kd.V_mono (ok':=fun k_=>some k_ ≠ (.slice Ao30 t1652.length co30 : Value).ownBlock/\some k_ ≠ (.slice Ao34 t1657.length co34 : Value).ownBlock/\some k_ ≠ (.slice Ao52 t1664.length co52 : Value).ownBlock/\k_ ≠ gb1648/\k_ ≠ gb1649/\k_ ≠ gb1661/\k_ ≠ gb1662/\k_ ≠ gb1669) ho0 (fun k_ hk_=>⟨(Kd.fresh' (Kd.R_lt (Kd.R_below (z3 HO1654.out BK1669.out (by decide) (.bool t1663) (.slice Ao52 t1664.length co52) (.int .i64 t1667)) pl)) k_ hk_),(Kd.fresh' (Kd.R_lt (Kd.R_below (z3 HO1659.out BK1669.out (by decide) (.bool t1663) (.slice Ao52 t1664.length co52) (.int .i64 t1667)) pl)) k_ hk_),(Kd.fresh' (Kd.R_lt (Kd.R_below (z3 HO1666.out BK1669.out (by decide) (.bool t1663) (.slice Ao52 t1664.length co52) (.int .i64 t1667)) pl)) k_ hk_),(Kd.freshB (g:=gb1648) (o:=.cells #[.bool a0_0,.slice A0_1 l0_1.length c0_1,.int .i64 a0_2] 24 (0,0)) (bf NB1648_1669.out BK1648.out) k_ hk_),(Kd.freshB (g:=gb1649) (o:=.cells #[.bool a1_0,.slice A1_1 l1_1.length c1_1,.int .i64 a1_2] 24 (0,0)) (bf NB1649_1669.out BK1649.out) k_ hk_),(Kd.freshB (g:=gb1661) (o:=.cells #[.bool t1651,.slice Ao30 t1652.length co30,.int .i64 t1655] 24 (0,0)) (bf NB1661_1669.out BK1661.out) k_ hk_),(Kd.freshB (g:=gb1662) (o:=.cells #[.bool t1656,.slice Ao34 t1657.length co34,.int .i64 t1660] 24 (0,0)) (bf NB1662_1669.out BK1662.out) k_ hk_),(Kd.freshB (g:=gb1669) (o:=.cells #[.bool t1663,.slice Ao52 t1664.length co52,.int .i64 t1667] 24 (0,0)) (by exact p3 BK1669) k_ hk_)⟩)) (below_size pB)); replace HO1654:=am (Kd.R_below (Kd.R_below (z3 HO1654.out BK1669.out (by decide) (.bool t1663) (.slice Ao52 t1664.length co52) (.int .i64 t1667)) pl) hb); replace HO1659:=am (Kd.R_below (Kd.R_below (z3 HO1659.out BK1669.out (by decide) (.bool t1663) (.slice Ao52 t1664.length co52) (.int .i64 t1667)) pl) hb); replace HO1666:=am (Kd.R_below (Kd.R_below (z3 HO1666.out BK1669.out (by decide) (.bool t1663) (.slice Ao52 t1664.length co52) (.int .i64 t1667)) pl) hb); replace BK1648:=bfb NB1648_1669 BK1648 hb; replace BK1649:=bfb NB1649_1669 BK1649 hb; replace BK1661:=bfb NB1661_1669 BK1661 hb; replace BK1662:=bfb NB1662_1669 BK1662 hb; replace BK1669:=am (blk_below (g:=gb1669) (o:=.cells #[.bool t1663,.slice Ao52 t1664.length co52,.int .i64 t1667] 24 (0,0)) (by exact p3 BK1669) hb); replace HB:=bS hb) | ((with_reducible refine gd 9 ?_); refine bx 9 #[.bool false,.slice none 0 0,.int .i64 0] 24 (h:=?_); intro gb1676 hg w55 hbox hb; have BK1676:=am hbox; have GW1676:=gW hg; have GE1676:=gW hg; have NB1648_1676:=nL hg BK1648; have NB1676_1648:=nG hg BK1648; have NB1649_1676:=nL hg BK1649; have NB1676_1649:=nG hg BK1649; have NB1661_1676:=nL hg BK1661; have NB1676_1661:=nG hg BK1661; have NB1662_1676:=nL hg BK1662; have NB1676_1662:=nG hg BK1662; have NB1669_1676:=nL hg BK1669; have NB1676_1669:=nG hg BK1669; replace HO1654:=rbl HO1654 hb; replace HO1659:=rbl HO1659 hb; replace HO1666:=rbl HO1666 hb; replace HO1673:=vE HO1673 gb1676 hg hb; replace BK1648:=bb BK1648 hb; replace BK1649:=bb BK1649 hb; replace BK1661:=bb BK1661 hb; replace BK1662:=bb BK1662 hb; replace BK1669:=bb BK1669 hb; replace HB:=bS hb; clear hb hbox hg; have hnb56:=NB1676_1648.out; have hnc56:=NB1648_1676.out; have hnb57:=NB1676_1649.out; have hnc57:=NB1649_1676.out; have hnb58:=NB1676_1661.out; have hnc58:=NB1661_1676.out; have hnb59:=NB1676_1662.out; have hnc59:=NB1662_1676.out; have hnb60:=NB1676_1669.out; have hnc60:=NB1669_1676.out; obtain ⟨hcz61_0,hcz61_1,hcz61_2,hfz61_0,hfz61_1,hfz61_2⟩:=cEc BK1676.out; obtain ⟨Ao62,co62,eo62⟩:=Kd.V_slice HO1673.out; subst eo62) | ((with_reducible refine gate_store (t:=24) (p:=9) rfl ?_); refine store_event (t:=24) (p:=9) (v:=?vo_w63) (w1:=(((w55.setCell ⟨gb1676,0,none⟩ (.bool t1670)).setCell ⟨gb1676,1,none⟩ (.slice Ao62 t1671.length co62)).setCell ⟨gb1676,2,none⟩ (.int .i64 t1674))) ?hg ?ho ?hn ?hr ?_; (case ho=>rfl); (case hg=>rfl); (case hn=>rfl); (case hr=>first | (go_simp; done) | (go_simp; rfl)); intro w63 hw; replace HO1654 : Aside0 (Kd.R (Kd.int .u32) 85 w63 w.heap.size (fun k_=>some k_ ≠ (.slice Ao34 t1657.length co34 : Value).ownBlock/\some k_ ≠ (.slice Ao52 t1664.length co52 : Value).ownBlock) (.slice Ao30 t1652.length co30) t1652):=⟨(by rw [hw]; exact (Kd.R_below (Kd.R_mono (Kd.R_far (p:=⟨gb1676,2,none⟩) (Kd.R_far (p:=⟨gb1676,1,none⟩) (Kd.R_far (p:=⟨gb1676,0,none⟩) (Kd.R_types HO1654.out BK1676.out (by decide)) (fun _ hk=>hk.2) (.bool t1670)) (fun _ hk=>hk.2) (.slice Ao62 t1671.length co62)) (fun _ hk=>hk.2) (.int .i64 t1674)) (fun _ hk=>⟨hk.1.1,hk.1.2⟩)) pl))⟩; replace HO1659 : Aside0 (Kd.R (Kd.int .u32) 85 w63 w.heap.size (fun k_=>some k_ ≠ (.slice Ao30 t1652.length co30 : Value).ownBlock/\some k_ ≠ (.slice Ao52 t1664.length co52 : Value).ownBlock) (.slice Ao34 t1657.length co34) t1657):=⟨(by rw [hw]; exact (Kd.R_below (Kd.R_mono (Kd.R_far (p:=⟨gb1676,2,none⟩) (Kd.R_far (p:=⟨gb1676,1,none⟩) (Kd.R_far (p:=⟨gb1676,0,none⟩) (Kd.R_types HO1659.out BK1676.out (by decide)) (fun _ hk=>hk.2) (.bool t1670)) (fun _ hk=>hk.2) (.slice Ao62 t1671.length co62)) (fun _ hk=>hk.2) (.int .i64 t1674)) (fun _ hk=>⟨hk.1.1,hk.1.2⟩)) pl))⟩; replace HO1666 : Aside0 (Kd.R (Kd.int .u32) 85 w63 w.heap.size (fun k_=>some k_ ≠ (.slice Ao30 t1652.length co30 : Value).ownBlock/\some k_ ≠ (.slice Ao34 t1657.length co34 : Value).ownBlock) (.slice Ao52 t1664.length co52) t1664):=⟨(by rw [hw]; exact (Kd.R_below (Kd.R_mono (Kd.R_far (p:=⟨gb1676,2,none⟩) (Kd.R_far (p:=⟨gb1676,1,none⟩) (Kd.R_far (p:=⟨gb1676,0,none⟩) (Kd.R_types HO1666.out BK1676.out (by decide)) (fun _ hk=>hk.2) (.bool t1670)) (fun _ hk=>hk.2) (.slice Ao62 t1671.length co62)) (fun _ hk=>hk.2) (.int .i64 t1674)) (fun _ hk=>⟨hk.1.1.2,hk.1.2⟩)) pl))⟩; replace HO1673 : Aside0 (Kd.V (Kd.int .u32) 85 w63 w.heap.size (fun k_=>some k_ ≠ (.slice Ao30 t1652.length co30 : Value).ownBlock/\some k_ ≠ (.slice Ao34 t1657.length co34 : Value).ownBlock/\some k_ ≠ (.slice Ao52 t1664.length co52 : Value).ownBlock/\k_ ≠ gb1648/\k_ ≠ gb1649/\k_ ≠ gb1661/\k_ ≠ gb1662/\k_ ≠ gb1669/\k_ ≠ gb1676) (.slice Ao62 t1671.length co62) t1671):=⟨(by rw [hw]; exact (Kd.V_below (Kd.V_mono (Kd.V_far (p:=⟨gb1676,2,none⟩) (Kd.V_far (p:=⟨gb1676,1,none⟩) (Kd.V_far (p:=⟨gb1676,0,none⟩) (Kd.V_mono HO1673.out (fun k_ hk=>(⟨hk,hk.2⟩ : _/\k_ ≠ gb1676))) (fun _ hk=>hk.2) (.bool t1670)) (fun _ hk=>hk.2) (.slice Ao62 t1671.length co62)) (fun _ hk=>hk.2) (.int .i64 t1674)) (fun _ hk=>⟨hk.1.1.1,⟨hk.1.1.2.1,⟨hk.1.1.2.2.1,⟨hk.1.1.2.2.2.1,⟨hk.1.1.2.2.2.2.1,⟨hk.1.1.2.2.2.2.2.1,⟨hk.1.1.2.2.2.2.2.2.1,⟨hk.1.1.2.2.2.2.2.2.2,hk.1.2⟩⟩⟩⟩⟩⟩⟩⟩)) pl))⟩; replace BK1648 : Aside0 (w63.heap[gb1648]? = some (.cells #[.bool a0_0,.slice A0_1 l0_1.length c0_1,.int .i64 a0_2] 24 (0,0))):=⟨(by rw [hw]; exact (bf NB1648_1676.out BK1648.out))⟩; replace BK1649 : Aside0 (w63.heap[gb1649]? = some (.cells #[.bool a1_0,.slice A1_1 l1_1.length c1_1,.int .i64 a1_2] 24 (0,0))):=⟨(by rw [hw]; exact (bf NB1649_1676.out BK1649.out))⟩; replace BK1661 : Aside0 (w63.heap[gb1661]? = some (.cells #[.bool t1651,.slice Ao30 t1652.length co30,.int .i64 t1655] 24 (0,0))):=⟨(by rw [hw]; exact (bf NB1661_1676.out BK1661.out))⟩; replace BK1662 : Aside0 (w63.heap[gb1662]? = some (.cells #[.bool t1656,.slice Ao34 t1657.length co34,.int .i64 t1660] 24 (0,0))):=⟨(by rw [hw]; exact (bf NB1662_1676.out BK1662.out))⟩; replace BK1669 : Aside0 (w63.heap[gb1669]? = some (.cells #[.bool t1663,.slice Ao52 t1664.length co52,.int .i64 t1667] 24 (0,0))):=⟨(by rw [hw]; exact (bf NB1669_1676.out BK1669.out))⟩; replace BK1676 : Aside0 (w63.heap[gb1676]? = some (.cells #[.bool t1670,.slice Ao62 t1671.length co62,.int .i64 t1674] 24 (0,0))):=⟨(by rw [hw]; exact (by exact p3 BK1676))⟩; replace HB : Aside0 (Below w.heap.size w w63):=⟨(by rw [hw]; exact pB)⟩; clear hw; obtain ⟨hcz64_0,hcz64_1,hcz64_2,hfz64_0,hfz64_1,hfz64_2⟩:=cEc BK1661.out) | (refine gL (some 34) Tryz.func45 #[.slice Ao30 t1652.length co30] (h:=?_); (with_reducible refine (bolterplain_SpoilLimbs.calls k (fun k_=>some k_ = (.slice Ao30 t1652.length co30 : Value).ownBlock) (.slice Ao30 t1652.length co30) t1652 t1677 w _ ?side1 ?side2 A9.out).mono ?_); (case side1=>exact pB); (case side2=>exact Kd.R_tight rfl HO1654.out); rintro e w65 ⟨rfl,hy0,hb,hkp⟩; refine ⟨_,rfl,?_⟩; replace BK1648:=am (blk_kept (blk_below BK1648.out pl) hkp (fun e_=>Kd.R_ne HO1654.out BK1648.out (by decide) e_)); replace BK1649:=am (blk_kept (blk_below BK1649.out pl) hkp (fun e_=>Kd.R_ne HO1654.out BK1649.out (by decide) e_)); replace HO1659:=am (Kd.R_mono (ok':=fun k_=>some k_ ≠ (.slice Ao30 t1652.length co30 : Value).ownBlock/\some k_ ≠ (.slice Ao52 t1664.length co52 : Value).ownBlock) (Kd.R_keptB (HO1659.out) hkp (fun k_ hk_ hs_=>(hk_.1) hs_)) (fun k_ hk_=>⟨hk_.1.1,hk_.1.2⟩)); replace BK1661:=am (blk_kept (blk_below BK1661.out pl) hkp (fun e_=>Kd.R_ne HO1654.out BK1661.out (by decide) e_)); replace BK1662:=am (blk_kept (blk_below BK1662.out pl) hkp (fun e_=>Kd.R_ne HO1654.out BK1662.out (by decide) e_)); replace HO1666:=am (Kd.R_mono (ok':=fun k_=>some k_ ≠ (.slice Ao30 t1652.length co30 : Value).ownBlock/\some k_ ≠ (.slice Ao34 t1657.length co34 : Value).ownBlock) (Kd.R_keptB (HO1666.out) hkp (fun k_ hk_ hs_=>(hk_.1) hs_)) (fun k_ hk_=>⟨hk_.1.1,hk_.1.2⟩)); replace BK1669:=am (blk_kept (blk_below BK1669.out pl) hkp (fun e_=>Kd.R_ne HO1654.out BK1669.out (by decide) e_)); replace HO1673:=am (Kd.V_mono (ok':=fun k_=>some k_ ≠ (.slice Ao30 t1652.length co30 : Value).ownBlock/\some k_ ≠ (.slice Ao34 t1657.length co34 : Value).ownBlock/\some k_ ≠ (.slice Ao52 t1664.length co52 : Value).ownBlock/\k_ ≠ gb1648/\k_ ≠ gb1649/\k_ ≠ gb1661/\k_ ≠ gb1662/\k_ ≠ gb1669/\k_ ≠ gb1676) (Kd.V_keptB (HO1673.out) hkp (fun k_ hk_ hs_=>(hk_.1) hs_)) (fun k_ hk_=>⟨hk_.1.1,hk_.1.2.1,hk_.1.2.2.1,hk_.1.2.2.2.1,hk_.1.2.2.2.2.1,hk_.1.2.2.2.2.2.1,hk_.1.2.2.2.2.2.2.1,hk_.1.2.2.2.2.2.2.2.1,hk_.1.2.2.2.2.2.2.2.2⟩)); replace BK1676:=am (blk_kept (blk_below BK1676.out pl) hkp (fun e_=>Kd.R_ne HO1654.out BK1676.out (by decide) e_)); replace HO1654:=am (Kd.R_reok rfl hy0 (fun k_ e_=>HO1654.out.1 k_ e_)); replace HB:=am hb; obtain ⟨hcz66_0,hcz66_1,hcz66_2,hfz66_0,hfz66_1,hfz66_2⟩:=cEc BK1662.out) | (refine gL (some 37) Tryz.func45 #[.slice Ao34 t1657.length co34] (h:=?_); (with_reducible refine (bolterplain_SpoilLimbs.calls k (fun k_=>some k_ = (.slice Ao34 t1657.length co34 : Value).ownBlock) (.slice Ao34 t1657.length co34) t1657 t1678 w _ ?side1 ?side2 A10.out).mono ?_); (case side1=>exact pB); (case side2=>exact Kd.R_tight rfl HO1659.out); rintro e w67 ⟨rfl,hy0,hb,hkp⟩; refine ⟨_,rfl,?_⟩; replace BK1648:=am (blk_kept (blk_below BK1648.out pl) hkp (fun e_=>Kd.R_ne HO1659.out BK1648.out (by decide) e_)); replace BK1649:=am (blk_kept (blk_below BK1649.out pl) hkp (fun e_=>Kd.R_ne HO1659.out BK1649.out (by decide) e_)); replace HO1654:=am (Kd.R_mono (ok':=fun k_=>some k_ ≠ (.slice Ao34 t1657.length co34 : Value).ownBlock/\some k_ ≠ (.slice Ao52 t1664.length co52 : Value).ownBlock) (Kd.R_keptB (HO1654.out) hkp (fun k_ hk_ hs_=>(hk_.1) hs_)) (fun k_ hk_=>⟨hk_.1.1,hk_.1.2⟩)); replace BK1661:=am (blk_kept (blk_below BK1661.out pl) hkp (fun e_=>Kd.R_ne HO1659.out BK1661.out (by decide) e_)); replace BK1662:=am (blk_kept (blk_below BK1662.out pl) hkp (fun e_=>Kd.R_ne HO1659.out BK1662.out (by decide) e_)); replace HO1666:=am (Kd.R_mono (ok':=fun k_=>some k_ ≠ (.slice Ao30 t1652.length co30 : Value).ownBlock/\some k_ ≠ (.slice Ao34 t1657.length co34 : Value).ownBlock) (Kd.R_keptB (HO1666.out) hkp (fun k_ hk_ hs_=>(hk_.2) hs_)) (fun k_ hk_=>⟨hk_.1.1,hk_.1.2⟩)); replace BK1669:=am (blk_kept (blk_below BK1669.out pl) hkp (fun e_=>Kd.R_ne HO1659.out BK1669.out (by decide) e_)); replace HO1673:=am (Kd.V_mono (ok':=fun k_=>some k_ ≠ (.slice Ao30 t1652.length co30 : Value).ownBlock/\some k_ ≠ (.slice Ao34 t1657.length co34 : Value).ownBlock/\some k_ ≠ (.slice Ao52 t1664.length co52 : Value).ownBlock/\k_ ≠ gb1648/\k_ ≠ gb1649/\k_ ≠ gb1661/\k_ ≠ gb1662/\k_ ≠ gb1669/\k_ ≠ gb1676) (Kd.V_keptB (HO1673.out) hkp (fun k_ hk_ hs_=>(hk_.2.1) hs_)) (fun k_ hk_=>⟨hk_.1.1,hk_.1.2.1,hk_.1.2.2.1,hk_.1.2.2.2.1,hk_.1.2.2.2.2.1,hk_.1.2.2.2.2.2.1,hk_.1.2.2.2.2.2.2.1,hk_.1.2.2.2.2.2.2.2.1,hk_.1.2.2.2.2.2.2.2.2⟩)); replace BK1676:=am (blk_kept (blk_below BK1676.out pl) hkp (fun e_=>Kd.R_ne HO1659.out BK1676.out (by decide) e_)); replace HO1659:=am (Kd.R_reok rfl hy0 (fun k_ e_=>HO1659.out.1 k_ e_)); replace HB:=am hb; have hnb68:=NB1648_1649.out; have hnc68:=NB1649_1648.out; obtain ⟨hcz69_0,hcz69_1,hcz69_2,hfz69_0,hfz69_1,hfz69_2⟩:=cEc BK1648.out; obtain ⟨hcz70_0,hcz70_1,hcz70_2,hfz70_0,hfz70_1,hfz70_2⟩:=cEc BK1649.out) | (refine gL (some 41) Tryz.func27 #[.agg #[.bool a0_0,.slice A0_1 l0_1.length c0_1,.int .i64 a0_2],.agg #[.bool a1_0,.slice A1_1 l1_1.length c1_1,.int .i64 a1_2]] (h:=?_); (with_reducible refine (bolterref02_Add.calls k a0_0 _ _ l0_1 a0_2 a1_0 _ _ l1_1 a1_2 t1679 t1680 t1683 t1684 _ ?side1 ?side2 ?side3 ?side4 A11.out).mono ?_); (case side1=>refine cp ?_; exact (Kd.C_below HR0_1.out HB.out)); (case side2=>exact HC0_1.out); (case side3=>refine cp ?_; exact (Kd.C_below HR1_1.out HB.out)); (case side4=>exact HC1_1.out); rintro e w71 ⟨v1681,rfl,ho0,hb⟩; refine ⟨_,rfl,?_⟩; have HO1682:=am (Kd.R_lower (Kd.R_new' (Kd.R_new' (Kd.R_new' ho0 (Kd.R_lt (Kd.R_below HO1654.out pl))) (Kd.R_lt (Kd.R_below HO1659.out pl))) (Kd.R_lt (Kd.R_below HO1666.out pl))) (below_size pB)); replace HO1654:=reR HO1654 ho0 hb; replace HO1659:=reR HO1659 ho0 hb; replace HO1666:=reR HO1666 ho0 hb; replace HO1673:=am (Kd.V_elder' (Kd.V_below HO1673.out pl) (Kd.R_base ho0) hb); replace BK1648:=bb BK1648 hb; replace BK1649:=bb BK1649 hb; replace BK1661:=bb BK1661 hb; replace BK1662:=bb BK1662 hb; replace BK1669:=bb BK1669 hb; replace BK1676:=bb BK1676 hb; replace HB:=bS hb) | ((with_reducible refine gd 11 ?_); refine bx 11 #[.bool false,.slice none 0 0,.int .i64 0] 24 (h:=?_); intro gb1685 hg w72 hbox hb; have BK1685:=am hbox; have GW1685:=gW hg; have GE1685:=gW hg; have NB1648_1685:=nL hg BK1648; have NB1685_1648:=nG hg BK1648; have NB1649_1685:=nL hg BK1649; have NB1685_1649:=nG hg BK1649; have NB1661_1685:=nL hg BK1661; have NB1685_1661:=nG hg BK1661; have NB1662_1685:=nL hg BK1662; have NB1685_1662:=nG hg BK1662; have NB1669_1685:=nL hg BK1669; have NB1685_1669:=nG hg BK1669; have NB1676_1685:=nL hg BK1676; have NB1685_1676:=nG hg BK1676; replace HO1654:=rbl HO1654 hb; replace HO1659:=rbl HO1659 hb; replace HO1666:=rbl HO1666 hb; replace HO1673:=vE HO1673 gb1685 hg hb; replace HO1682:=rbl HO1682 hb; replace BK1648:=bb BK1648 hb; replace BK1649:=bb BK1649 hb; replace BK1661:=bb BK1661 hb; replace BK1662:=bb BK1662 hb; replace BK1669:=bb BK1669 hb; replace BK1676:=bb BK1676 hb; replace HB:=bS hb; clear hb hbox hg; have hnb73:=NB1685_1648.out; have hnc73:=NB1648_1685.out; have hnb74:=NB1685_1649.out; have hnc74:=NB1649_1685.out; have hnb75:=NB1685_1661.out; have hnc75:=NB1661_1685.out; have hnb76:=NB1685_1662.out; have hnc76:=NB1662_1685.out; have hnb77:=NB1685_1669.out; have hnc77:=NB1669_1685.out; have hnb78:=NB1685_1676.out; have hnc78:=NB1676_1685.out; obtain ⟨hcz79_0,hcz79_1,hcz79_2,hfz79_0,hfz79_1,hfz79_2⟩:=cEc BK1685.out; obtain ⟨Ao80,co80,eo80⟩:=Kd.R_slice HO1682.out; subst eo80; obtain ⟨hcz81_0,hcz81_1,hcz81_2,hfz81_0,hfz81_1,hfz81_2⟩:=cEc BK1648.out) | (refine gL (some 46) Tryz.func46 #[.agg #[.bool a0_0,.slice A0_1 l0_1.length c0_1,.int .i64 a0_2]] (h:=?_); (with_reducible refine (bolterref02_Neg.calls k a0_0 _ _ l0_1 a0_2 t1686 t1687 t1690 t1691 _ ?side1 ?side2 A12.out).mono ?_); (case side1=>exact Kd.C_below HR0_1.out pB); (case side2=>exact HC0_1.out); rintro e w82 ⟨v1688,rfl,ho0,hb⟩; refine ⟨_,rfl,?_⟩; have HO1689:=am (Kd.R_lower (Kd.R_new' (Kd.R_new' (Kd.R_new' (Kd.R_new' ho0 (Kd.R_lt (Kd.R_below (z3 HO1654.out BK1685.out (by decide) (.bool t1679) (.slice Ao80 t1680.length co80) (.int .i64 t1683)) pl))) (Kd.R_lt (Kd.R_below (z3 HO1659.out BK1685.out (by decide) (.bool t1679) (.slice Ao80 t1680.length co80) (.int .i64 t1683)) pl))) (Kd.R_lt (Kd.R_below (z3 HO1666.out BK1685.out (by decide) (.bool t1679) (.slice Ao80 t1680.length co80) (.int .i64 t1683)) pl))) (Kd.R_lt (Kd.R_below (z3 HO1682.out BK1685.out (by decide) (.bool t1679) (.slice Ao80 t1680.length co80) (.int .i64 t1683)) pl))) (below_size pB)); replace HO1654:=am (Kd.R_elder' (Kd.R_below (z3 HO1654.out BK1685.out (by decide) (.bool t1679) (.slice Ao80 t1680.length co80) (.int .i64 t1683)) pl) (Kd.R_base ho0) hb); replace HO1659:=am (Kd.R_elder' (Kd.R_below (z3 HO1659.out BK1685.out (by decide) (.bool t1679) (.slice Ao80 t1680.length co80) (.int .i64 t1683)) pl) (Kd.R_base ho0) hb); replace HO1666:=am (Kd.R_elder' (Kd.R_below (z3 HO1666.out BK1685.out (by decide) (.bool t1679) (.slice Ao80 t1680.length co80) (.int .i64 t1683)) pl) (Kd.R_base ho0) hb); replace HO1673:=am (Kd.V_elder' (Kd.V_below (Kd.V_mono (Kd.V_far (p:=⟨gb1685,2,none⟩) (Kd.V_far (p:=⟨gb1685,1,none⟩) (Kd.V_far (p:=⟨gb1685,0,none⟩) (Kd.V_mono HO1673.out (fun k_ hk=>(⟨hk,hk.2⟩ : _/\k_ ≠ gb1685))) (fun _ hk=>hk.2) (.bool t1679)) (fun _ hk=>hk.2) (.slice Ao80 t1680.length co80)) (fun _ hk=>hk.2) (.int .i64 t1683)) (fun _ h_=>h_.1)) pl) (Kd.R_base ho0) hb); replace HO1682:=am (Kd.R_elder' (Kd.R_below (z3 HO1682.out BK1685.out (by decide) (.bool t1679) (.slice Ao80 t1680.length co80) (.int .i64 t1683)) pl) (Kd.R_base ho0) hb); replace BK1648:=bfb NB1648_1685 BK1648 hb; replace BK1649:=bfb NB1649_1685 BK1649 hb; replace BK1661:=bfb NB1661_1685 BK1661 hb; replace BK1662:=bfb NB1662_1685 BK1662 hb; replace BK1669:=bfb NB1669_1685 BK1669 hb; replace BK1676:=bfb NB1676_1685 BK1676 hb; replace BK1685:=am (blk_below (g:=gb1685) (o:=.cells #[.bool t1679,.slice Ao80 t1680.length co80,.int .i64 t1683] 24 (0,0)) (by exact p3 BK1685) hb); replace HB:=bS hb) | ((with_reducible refine gd 13 ?_); refine bx 13 #[.bool false,.slice none 0 0,.int .i64 0] 24 (h:=?_); intro gb1692 hg w83 hbox hb; have BK1692:=am hbox; have GW1692:=gW hg; have GE1692:=gW hg; have NB1648_1692:=nL hg BK1648; have NB1692_1648:=nG hg BK1648; have NB1649_1692:=nL hg BK1649; have NB1692_1649:=nG hg BK1649; have NB1661_1692:=nL hg BK1661; have NB1692_1661:=nG hg BK1661; have NB1662_1692:=nL hg BK1662; have NB1692_1662:=nG hg BK1662; have NB1669_1692:=nL hg BK1669; have NB1692_1669:=nG hg BK1669; have NB1676_1692:=nL hg BK1676; have NB1692_1676:=nG hg BK1676; have NB1685_1692:=nL hg BK1685; have NB1692_1685:=nG hg BK1685; replace HO1654:=rbl HO1654 hb; replace HO1659:=rbl HO1659 hb; replace HO1666:=rbl HO1666 hb; replace HO1673:=vE HO1673 gb1692 hg hb; replace HO1682:=rbl HO1682 hb; replace HO1689:=rbl HO1689 hb; replace BK1648:=bb BK1648 hb; replace BK1649:=bb BK1649 hb; replace BK1661:=bb BK1661 hb; replace BK1662:=bb BK1662 hb; replace BK1669:=bb BK1669 hb; replace BK1676:=bb BK1676 hb; replace BK1685:=bb BK1685 hb; replace HB:=bS hb; clear hb hbox hg; have hnb84:=NB1692_1648.out; have hnc84:=NB1648_1692.out; have hnb85:=NB1692_1649.out; have hnc85:=NB1649_1692.out; have hnb86:=NB1692_1661.out; have hnc86:=NB1661_1692.out; have hnb87:=NB1692_1662.out; have hnc87:=NB1662_1692.out; have hnb88:=NB1692_1669.out; have hnc88:=NB1669_1692.out; have hnb89:=NB1692_1676.out; have hnc89:=NB1676_1692.out; have hnb90:=NB1692_1685.out; have hnc90:=NB1685_1692.out; obtain ⟨hcz91_0,hcz91_1,hcz91_2,hfz91_0,hfz91_1,hfz91_2⟩:=cEc BK1692.out; obtain ⟨Ao92,co92,eo92⟩:=Kd.R_slice HO1689.out; subst eo92; obtain ⟨hcz93_0,hcz93_1,hcz93_2,hfz93_0,hfz93_1,hfz93_2⟩:=cEc BK1669.out; obtain ⟨hcz94_0,hcz94_1,hcz94_2,hfz94_0,hfz94_1,hfz94_2⟩:=cEc BK1685.out) | (refine gL (some 51) Tryz.func21 #[.agg #[.bool t1663,.slice Ao52 t1664.length co52,.int .i64 t1667],.agg #[.bool t1679,.slice Ao80 t1680.length co80,.int .i64 t1683]] (h:=?_); (with_reducible refine (bolterref02_Same.calls k t1663 _ _ t1664 t1667 t1679 _ _ t1680 t1683 true _ ?side1 ?side2 ?side3 ?side4 A13.out).mono ?_); (case side1=>refine (Kd.R_reads' (e:=85) (base:=w.heap.size) (ok:=fun k_=>(((some k_ ≠ (.slice Ao30 t1652.length co30 : Value).ownBlock/\some k_ ≠ (.slice Ao34 t1657.length co34 : Value).ownBlock)/\some k_ ≠ (.slice Ao80 t1680.length co80 : Value).ownBlock)/\some k_ ≠ (.slice Ao92 t1687.length co92 : Value).ownBlock)) (n:=t1664.length) (c:=co52) ?_).2.2; exact (Kd.R_below (z3 HO1666.out BK1692.out (by decide) (.bool t1686) (.slice Ao92 t1687.length co92) (.int .i64 t1690)) pl)); (case side2=>exact (Kd.R_reads' HO1666.out).2.1); (case side3=>refine (Kd.R_reads' (e:=85) (base:=w.heap.size) (ok:=fun k_=>((((True/\some k_ ≠ (.slice Ao30 t1652.length co30 : Value).ownBlock)/\some k_ ≠ (.slice Ao34 t1657.length co34 : Value).ownBlock)/\some k_ ≠ (.slice Ao52 t1664.length co52 : Value).ownBlock)/\some k_ ≠ (.slice Ao92 t1687.length co92 : Value).ownBlock)) (n:=t1680.length) (c:=co80) ?_).2.2; exact (Kd.R_below (z3 HO1682.out BK1692.out (by decide) (.bool t1686) (.slice Ao92 t1687.length co92) (.int .i64 t1690)) pl)); (case side4=>exact (Kd.R_reads' HO1682.out).2.1); rintro e w95 ⟨rfl,hb⟩; refine ⟨_,rfl,?_⟩; replace HO1654:=am (Kd.R_below (Kd.R_below (z3 HO1654.out BK1692.out (by decide) (.bool t1686) (.slice Ao92 t1687.length co92) (.int .i64 t1690)) pl) hb); replace HO1659:=am (Kd.R_below (Kd.R_below (z3 HO1659.out BK1692.out (by decide) (.bool t1686) (.slice Ao92 t1687.length co92) (.int .i64 t1690)) pl) hb); replace HO1666:=am (Kd.R_below (Kd.R_below (z3 HO1666.out BK1692.out (by decide) (.bool t1686) (.slice Ao92 t1687.length co92) (.int .i64 t1690)) pl) hb); replace HO1673:=am (Kd.V_below (Kd.V_below (Kd.V_mono (Kd.V_far (p:=⟨gb1692,2,none⟩) (Kd.V_far (p:=⟨gb1692,1,none⟩) (Kd.V_far (p:=⟨gb1692,0,none⟩) (Kd.V_mono HO1673.out (fun k_ hk=>(⟨hk,hk.2⟩ : _/\k_ ≠ gb1692))) (fun _ hk=>hk.2) (.bool t1686)) (fun _ hk=>hk.2) (.slice Ao92 t1687.length co92)) (fun _ hk=>hk.2) (.int .i64 t1690)) (fun _ h_=>h_.1)) pl) hb); replace HO1682:=am (Kd.R_below (Kd.R_below (z3 HO1682.out BK1692.out (by decide) (.bool t1686) (.slice Ao92 t1687.length co92) (.int .i64 t1690)) pl) hb); replace HO1689:=am (Kd.R_below (Kd.R_below (z3 HO1689.out BK1692.out (by decide) (.bool t1686) (.slice Ao92 t1687.length co92) (.int .i64 t1690)) pl) hb); replace BK1648:=bfb NB1648_1692 BK1648 hb; replace BK1649:=bfb NB1649_1692 BK1649 hb; replace BK1661:=bfb NB1661_1692 BK1661 hb; replace BK1662:=bfb NB1662_1692 BK1662 hb; replace BK1669:=bfb NB1669_1692 BK1669 hb; replace BK1676:=bfb NB1676_1692 BK1676 hb; replace BK1685:=bfb NB1685_1692 BK1685 hb; replace BK1692:=am (blk_below (g:=gb1692) (o:=.cells #[.bool t1686,.slice Ao92 t1687.length co92,.int .i64 t1690] 24 (0,0)) (by exact p3 BK1692) hb); replace HB:=bS hb) | (go_at_call 47; (with_reducible refine (bolterlaw02_num.calls t1668 t1694 _ A15.out).mono ?_); rintro e w' ⟨rfl,⟨nd,rfl⟩⟩; obtain ⟨hcz96_0,hcz96_1,hcz96_2,hfz96_0,hfz96_1,hfz96_2⟩:=cEc BK1676.out; obtain ⟨hcz97_0,hcz97_1,hcz97_2,hfz97_0,hfz97_1,hfz97_2⟩:=cEc BK1692.out) | (go_at_call 21; (with_reducible refine (bolterref02_Same.calls k t1670 _ _ t1671 t1674 t1686 _ _ t1687 t1690 true _ ?side1 ?side2 ?side3 ?side4 A17.out).mono ?_); (case side1=>exact Kd.C_below (Kd.V_reads' HO1673.out).2.2 pl); (case side2=>exact (Kd.V_reads' HO1673.out).2.1); (case side3=>exact Kd.C_below (Kd.R_reads' HO1689.out).2.2 pl); (case side4=>exact (Kd.R_reads' HO1689.out).2.1); rintro e w98 ⟨rfl,hb⟩; replace HO1654:=rbl HO1654 hb; replace HO1659:=rbl HO1659 hb; replace HO1666:=rbl HO1666 hb; replace HO1673:=vbl HO1673 hb; replace HO1682:=rbl HO1682 hb; replace HO1689:=rbl HO1689 hb; replace BK1648:=bb BK1648 hb; replace BK1649:=bb BK1649 hb; replace BK1661:=bb BK1661 hb; replace BK1662:=bb BK1662 hb; replace BK1669:=bb BK1669 hb; replace BK1676:=bb BK1676 hb; replace BK1685:=bb BK1685 hb; replace BK1692:=bb BK1692 hb; replace HB:=bS hb) | (go_at_call 47; (with_reducible refine (bolterlaw02_num.calls t1675 t1696 _ A19.out).mono ?_); rintro e w' ⟨rfl,⟨nd,rfl⟩⟩))
     go_ret
     exact ⟨pE,pB⟩
    ·replace c18:=Bool.eq_false_iff.mpr c18
     subst c18
     rw [if_neg (show ¬ (false = true) by decide)] at H
     exact absurd ((Option.some.inj H).trans hr) Bool.false_ne_true
   ·rw [if_neg c16] at H
    have c16b0 : (t1694 == t1684) = false:=beq_eq_false_iff_ne.mpr c16
    have c16b1 : (t1694 != t1684) = true:=bne_iff_ne.mpr c16
    exact absurd ((Option.some.inj H).trans hr) Bool.false_ne_true
  ·replace c14:=Bool.eq_false_iff.mpr c14
   subst c14
   rw [if_neg (show ¬ (false = true) by decide)] at H
   exact absurd ((Option.some.inj H).trans hr) Bool.false_ne_true
 ·replace c4:=Bool.eq_false_iff.mpr c4
  subst c4
  rw [if_neg (show ¬ (false = true) by decide)] at H
  exact absurd ((Option.some.inj H).trans hr) Bool.false_ne_true
end YtjbjkmccfocikaaGreatDoor.B
end
section
namespace YtjbjkmccfocikaaGreatDoor.P.Nm
open Go.RowKit YtjbjkmccfocikaaGreatDoorW.PrintWords YtjbjkmccfocikaaGreatDoor.B YtjbjkmccfocikaaGreatDoor.P
theorem Copy_tells {l : List Int} (h : l.length<=35184372087808) : bolterplain_CopyLimbs.f l = some l:=by
 unfold bolterplain_CopyLimbs.f
 rw [if_pos (by simp; omega),List.nil_append]
theorem Spoil_l0 : ∀ (d : Nat) (l : List Int) (i : Nat),l.length - i = d->i<=l.length->l.length<=35184372087808 -> ∃ y,Tells (fun k=>bolterplain_SpoilLimbs.l0 k l (i : Int)) y
 | 0,l,i,hd,hi,hl=>by
  refine ⟨l,Tells.succ ?_⟩
  simp only [bolterplain_SpoilLimbs.l0]
  exact Tells.ifn (by omega) (Tells.pure _)
 | d + 1,l,i,hd,hi,hl=>by
  obtain ⟨y,hy⟩:=Spoil_l0 d (l.set i 7) (i + 1) (by rw [List.length_set]; omega) (by rw [List.length_set]; omega) (by rw [List.length_set]; omega)
  refine ⟨y,Tells.succ ?_⟩
  simp only [bolterplain_SpoilLimbs.l0]
  rw [w64s (by omega),Int.toNat_natCast]
  exact Tells.ifp (by omega) (Tells.ifp (by omega) hy)
theorem Spoil_tells {l : List Int} (h : l.length<=35184372087808) : ∃ y,Tells (fun k=>bolterplain_SpoilLimbs.f k l) y:=Spoil_l0 _ l 0 rfl (Nat.zero_le _) h
theorem Neg_bad {a : Bool} {l : List Int} {e : Int} (hl : RawD l) (h : ¬ chk a l e = 0) : Tells (fun k=>dec_Neg.f k a l e) (false,[],0,9):=by
 unfold dec_Neg.f
 refine (DCheck_tells a l e hl.dg hl.len).bind (Tells.ifn h ((Tells.pure _).val ?_))
 rcases chk_01 a l e with h1 | h1
 ·exact absurd h1 h
 ·rw [h1]
theorem RNeg_bad {a : Bool} {l : List Int} {e : Int} (hl : RawD l) (h : ¬ chk a l e = 0) : Tells (fun k=>bolterref02_Neg.f k a l e) (false,[],0,9):=by
 unfold bolterref02_Neg.f
 exact (RCheck_tells a l e hl.dg hl.len).bind (Tells.ifn h (Tells.pure _))
theorem RAdd_bad {a b : Bool} {l m : List Int} {e g : Int} (hl : RawD l) (hm : RawD m) (h : ¬ (chk a l e = 0/\chk b m g = 0)) : Tells (fun k=>bolterref02_Add.f k a l e b m g) (false,[],0,9):=by
 unfold bolterref02_Add.f
 have := Rchecks_tells a l e b m g hl.dg hl.len hm.dg hm.len
 rw [if_neg h] at this
 exact this.bind (Tells.ifn (by decide) (Tells.pure _))
theorem AddX {a b : Bool} {l m : List Int} {e g : Int} (hl : RawD l) (hm : RawD m) : ∃ D : Dm × Int,nd D.1.n<=1000/\Tells (fun k=>dec_Add.f k a l e b m g) (outD D)/\Tells (fun k=>bolterref02_Add.f k a l e b m g) (outD D):=by
 by_cases h : chk a l e = 0/\chk b m g = 0
 ·obtain ⟨D,hD,rfl,rfl,rfl⟩:=of_chk hl.dg h.1
  obtain ⟨E,hE,rfl,rfl,rfl⟩:=of_chk hm.dg h.2
  exact ⟨addD D E,by have := (settle_ok (plusD D E)).len; unfold addD; omega,DAdd D E hD hE,RAdd D E hD hE⟩
 ·exact ⟨(zeroD,9),by decide,Add_bad hl hm h,RAdd_bad hl hm h⟩
theorem NegX {a : Bool} {l : List Int} {e : Int} (hl : RawD l) : ∃ D : Dm × Int,nd D.1.n<=1000/\Tells (fun k=>dec_Neg.f k a l e) (outD D)/\Tells (fun k=>bolterref02_Neg.f k a l e) (outD D):=by
 by_cases h : chk a l e = 0
 ·obtain ⟨D,hD,rfl,rfl,rfl⟩:=of_chk hl.dg h
  exact ⟨(negD D,0),by have := hD.len; show nd D.n<=1000; omega,DNeg D hD,RNeg D hD⟩
 ·exact ⟨(zeroD,9),by decide,Neg_bad hl h,RNeg_bad hl h⟩
theorem DecOwn_plain {a b : Bool} {l m : List Int} {e f : Int} (hl : RawD l) (hm : RawD m) (zl : l.length<=35184372087808) (zm : m.length<=35184372087808) : Tells (fun k=>bolterlaw02_DecOwn.f k a l e b m f) true:=by
 obtain ⟨y1,s1⟩:=Spoil_tells zl
 obtain ⟨y2,s2⟩:=Spoil_tells zm
 obtain ⟨D,hD,d1,d2⟩:=AddX (a:=a) (b:=b) (e:=e) (g:=f) hl hm
 obtain ⟨E,hE,e1,e2⟩:=NegX (a:=a) (e:=e) hl
 unfold bolterlaw02_DecOwn.f bolterlaw02_own.f bolterlaw02_num.f
 rw [Copy_tells zl,Copy_tells zm]
 refine alive02.bind (Tells.ifp rfl (((Tells.pure _).bind (Tells.pure _)).bind (((Tells.pure _).bind (Tells.pure _)).bind (d1.bind (e1.bind (s1.bind (s2.bind (d2.bind (e2.bind ?_)))))))))
 exact (Same_self D.1 (by omega)).bind (Tells.ifp rfl ((Tells.pure _).bind (Tells.ifp rfl ((Same_self E.1 (by omega)).bind (Tells.ifp rfl ((Tells.pure _).bind ((Tells.pure _).val (by simp [outD]))))))))
end YtjbjkmccfocikaaGreatDoor.P.Nm
end
section
namespace YtjbjkmccfocikaaGreatDoor.R
open Go.ChangeShapes Go.WideShapes Go.ChangeAt Go.RowKit Go.Joins YtjbjkmccfocikaaGreatDoorW.PrintWords YtjbjkmccfocikaaGreatDoor.P.Nm
theorem laidOut : laidOutB Tryz.prog = true:=by kernel_rfl
theorem cellsD : Tryz.prog.cellsOf 24 = 3:=by kernel_rfl
theorem cellsU : Tryz.prog.cellsOf 85 = 1:=by kernel_rfl
theorem wf32 {n : Int} (h : (Lit.int .u32 n).wf = true) : 0<=n/\n < 4294967296:=by
 have e1 : IntKind.u32.min = 0:=by decide
 have e2 : IntKind.u32.max = 4294967295:=by decide
 simp only [Lit.wf,e1,e2,Bool.and_eq_true,decide_eq_true_eq] at h
 omega
theorem open_limbs {H : Type} {enc : TypeId × Value->H} {W : World} {v : Value} {fuel : Nat} {x : DataW H × List MemPlace}
  (hf : DataW.trod enc Tryz.prog W 0 (fun _=>true) true fuel 22 [v] = some x) :
  ∃ (A : Option Addr) (c : Nat) (l : List Int),v = .slice A l.length c/\l.length<=c/\Kd.C (Kd.int .u32) W A l.length l/\RawD l/\((x.1 = .nil/\l = []) \/ ∃ spare,x.1 = .slice (lits .u32 l) spare):=by
 rcases open_ints Tryz.underlying22 Tryz.underlying85 cellsU hf with ⟨hcs,hx⟩ | ⟨a,len,cap,zs,hcs,_,hl,hm,hz,hx,hcell,hwf⟩
 ·simp at hcs
  subst hcs hx
  exact ⟨none,0,[],rfl,Nat.le_refl _,Kd.C_of_reads (enc:=Value.int .u32) (d:=0) ⟨rfl,by simp,fun h=>absurd h (by simp)⟩,RawD.nil,.inl ⟨rfl,rfl⟩⟩
 ·simp at hcs
  subst hcs hx
  simp only [if_true] at hz
  have hlen : (zs.take len).length = len:=by simp; omega
  refine ⟨some a,cap,zs.take len,by rw [hlen],by omega,Kd.C_of_reads (enc:=Value.int .u32) (d:=0) ⟨rfl,by unfold maxLen at hm; simp; omega,fun _=>⟨a,rfl,fun j hj=>?_⟩⟩,⟨fun y hy=>wf32 (hwf y (List.mem_of_mem_take hy)),by unfold maxLen at hm; omega⟩,.inr ⟨_,rfl⟩⟩
  have hj' : j < len:=by simp at hj; omega
  rw [hcell j (by omega)]
  simp [List.getD,List.getElem?_take_of_lt hj']
theorem weights_of {H : Type} {P : Program} {ts : List TypeId} {ds : List (DataW H)} {j : Nat} {t : TypeId} {d : DataW H} (h : (DataW.weightsEach P ts ds).all (· <= reachBytes) = true) (ht : ts[j]? = some t) (hd : ds[j]? = some d) :
  (d.weights P t).all (· <= reachBytes) = true :=
 List.all_eq_true.2 fun n hn=>List.all_eq_true.1 h n (DataW.weights_mem_each ht hd n hn)
theorem bytesU : Tryz.prog.bytesOf 85 = 4:=by kernel_rfl
theorem limbs_sized {H : Type} {x : DataW H} {l : List Int} (h : (x = .nil/\l = []) \/ ∃ spare,x = .slice (lits .u32 l) spare) (hw : (x.weights Tryz.prog 22).all (· <= reachBytes) = true) : l.length<=35184372087808:=by
 rcases h with ⟨rfl,rfl⟩ | ⟨sp,rfl⟩
 ·simp
 ·have := List.all_eq_true.1 hw (((lits .u32 l : List (DataW H)).length + sp.length) * Tryz.prog.bytesOf 85) (by simp [DataW.weights,Tryz.underlying22])
  rw [bytesU] at this
  have hl : (lits .u32 l : List (DataW H)).length = l.length:=by simp [lits]
  rw [hl] at this
  have hb : reachBytes = 140737488351232:=by decide
  rw [decide_eq_true_eq,hb] at this
  omega
theorem open_dec {H : Type} {enc : TypeId × Value->H} {W : World} {base : Nat} {v : Value} {d : DataW H} {p : List MemPlace} (hv : Value.okWide Tryz.prog W .any base 24 v)
  (h : DataW.Trod enc Tryz.prog W 0 (fun _=>true) true 24 v d p) :
  ∃ (n : Bool) (A : Option Addr) (c : Nat) (l : List Int) (e : Int),v = .agg #[.bool n,.slice A l.length c,.int .i64 e]/\l.length<=c/\Kd.C (Kd.int .u32) W A l.length l/\RawD l/\(Lit.int .i64 e).wf = true /\
   ((d.weights Tryz.prog 24).all (· <= reachBytes) = true->l.length<=35184372087808):=by
 obtain ⟨c0,c1,c2,y0,y1,y2,m,rfl,rfl,rfl,hy0,hy1,hy2⟩:=open_agg3 Tryz.underlying24 (by kernel_rfl) cellsD hv h
 obtain ⟨n,e0,_⟩:=DataW.trod_bool Tryz.underlying4 hy0
 obtain ⟨A,c,l,e1,h1,h2,h3,h4⟩:=open_limbs hy1
 obtain ⟨e,e2,_,we⟩:=DataW.trod_int Tryz.underlying3 hy2
 simp at e0 e2
 subst e0 e1 e2
 refine ⟨n,A,c,l,e,rfl,h1,h2,h3,we,fun hw=>limbs_sized h4 (List.all_eq_true.2 fun z hz=>List.all_eq_true.1 hw z ?_)⟩
 simp only [DataW.weights,Tryz.underlying24,List.map_cons,List.map_nil,DataW.weightsEach,List.mem_append]
 exact .inr (.inl hz)
end YtjbjkmccfocikaaGreatDoor.R
end
section
namespace YtjbjkmccfocikaaGreatDoor.R.decOwn
open Go.ChangeShapes Go.WideShapes Go.ChangeAt Go.RowKit
open Go.ChangeMaps (open_string shut_string)
theorem reads (os : Os) {H : Type} (enc : TypeId × Value->H) : ∃ places,DataW.whole enc Tryz.prog ((laidWorld os).forCall (fun _ _=>0) ⟨#[],#[Value.agg #[.bool false,.slice none 0 0,.int .i64 0],Value.agg #[.bool false,.slice none 0 0,.int .i64 0]],[]⟩).memory Tryz.f9.params.toList Rows.decOwnSpec.vars false (#[Value.agg #[.bool false,.slice none 0 0,.int .i64 0],Value.agg #[.bool false,.slice none 0 0,.int .i64 0]] : Array Value).toList 8 = some ([.agg [.lit (.bool false),.nil,.lit (.int .i64 0)],.agg [.lit (.bool false),.nil,.lit (.int .i64 0)]],[],places) :=
 ⟨[],by kernel_rfl⟩
theorem contract (H : Type) (enc : TypeId × Value->H) (W : World) (base : Nat) (args : Array Value) (ds gs : List (DataW H)) (before : List MemPlace)
  (hval : ∀ (j : Nat) t v,Tryz.f9.params[j]? = some t->args[j]? = some v->Value.okWide Tryz.prog W .any base t v)
  (hW : DataW.Whole enc Tryz.prog Tryz.f9.params.toList Rows.decOwnSpec.vars false W args.toList ds gs before) (hk : (DataW.weightsEach Tryz.prog (Tryz.f9.params.toList ++ (OpenSpec.ofChange Rows.decOwnSpec).bare.plain.varTypes Tryz.prog) (ds ++ gs)).all (· <= reachBytes) = true) (hL : laidMetH Tryz.prog laidL W) (hsh : W.ShapedOpen Tryz.prog) :
  Calls Tryz.prog 9 args W fun e W' => ∃ v,e = .returned v/\Rows.decOwnSpec.post enc Tryz.prog Tryz.f9 false true false false W args v W':=by
 have hG:=glob hL hsh
 have hW':=hW
 obtain ⟨p,q,hA0,hV,rfl,hfz,hnd⟩:=hW
 have hA : DataW.TrodAll enc Tryz.prog W 0 (fun _=>true) true Tryz.f9.params.toList args.toList ds p:=hA0
 rw [Tryz.params9] at hA hval hk
 obtain ⟨v0,vs0,d0,ds0,p0,q0,hargs,rfl,rfl,h0,r0⟩:=trodAll_cons hA
 obtain ⟨v1,vs1,d1,ds1,p1,q1,rfl,rfl,rfl,h1,r1⟩:=trodAll_cons r0
 obtain ⟨rfl,rfl,rfl⟩:=trodAll_nil r1
 obtain rfl : args = #[v0,v1]:=by cases args; simp_all
 obtain ⟨rfl,rfl⟩:=trodVars_none hV
 have h0k:=h0
 obtain ⟨n0,A0,c0,l0,e0,rfl,hc0,hC0,hR0,we0,hs0⟩:=open_dec (hval 0 24 v0 rfl rfl) h0
 have h1k:=h1
 obtain ⟨n1,A1,c1,l1,e1,rfl,hc1,hC1,hR1,we1,hs1⟩:=open_dec (hval 1 24 v1 rfl rfl) h1
 have z0 : l0.length<=35184372087808:=hs0 (weights_of (j:=0) (t:=24) hk rfl rfl)
 have z1 : l1.length<=35184372087808:=hs1 (weights_of (j:=1) (t:=24) hk rfl rfl)
 simp only [List.append_nil] at hW'
 have hlt : ∀ x ∈ p0 ++ p1,x.block < W.heap.size:=fun x hx=>hW'.lt x (by simpa using hx)
 clear hA0 hA hk hL
 obtain ⟨k,hp⟩:=(P.Nm.DecOwn_plain hR0 hR1 z0 z1).ex
 refine (B.bolterlaw02_DecOwn.calls k n0 A0 c0 l0 e0 n1 A1 c1 l1 e1 true W hC0 hc0 hC1 hc1 hp rfl).mono fun e W' ⟨he,bel⟩=>?_
 subst he
 exact ⟨_,rfl,_,_,_,[],_,[],hW',trodAll_mk1 (shut_bool Tryz.underlying4 _),(trodAll_cons_mk (Below.trod laidOut (by kernel_rfl) (of_decide_eq_true (by kernel_rfl)) h0k bel (fun x hx=>hlt x (by simp [hx]))) (trodAll_cons_mk (Below.trod laidOut (by kernel_rfl) (of_decide_eq_true (by kernel_rfl)) h1k bel (fun x hx=>hlt x (by simp [hx]))) trodAll_mk0)),rfl,bel.frame _,fun h=>by cases h⟩
theorem lifted (os : Os) (started : os.Started) (H : Type) (enc : TypeId × Value->H) (F : Stop.Interp) :
  ReturnsInHanded {} Tryz.checked os 9 .any ((OpenSpec.ofChange Rows.decOwnSpec).preRow enc Tryz.prog Tryz.f9 Rows.decOwnRow.domain false Rows.decOwnRow.laid) (((OpenSpec.ofChange Rows.decOwnSpec).at F).post enc Tryz.prog Tryz.f9 false true false false):=by
 obtain ⟨places,hx⟩:=reads os enc
 refine returnsInHanded_of_row (C:=Tryz.checked) (s:=OpenSpec.ofChange Rows.decOwnSpec) own started (by kernel_rfl) Tryz.func9
  (witness_row_at (enc:=enc) (C:=Tryz.checked) false (laidWorld os) #[Value.agg #[.bool false,.slice none 0 0,.int .i64 0],Value.agg #[.bool false,.slice none 0 0,.int .i64 0]] rfl (by kernel_rfl) (by kernel_rfl) (by kernel_rfl)
   (OpenSpec.preRow_of_cond 8 hx (by kernel_rfl) (fun k hk=>by cases hk) (by kernel_rfl) (laid_met os _))) ?_
 intro W base args ds gs before hval hW _ _ hk hL hsh _
 exact contract H enc W base args ds gs before hval hW hk hL hsh
theorem said : Rows.DecOwnSaid :=
 OpenClaim.holds_of_cond 9 Tryz.f9 rfl rfl rfl rfl rfl rfl rfl ⟨rfl,rfl,rfl,rfl,rfl⟩ rfl rfl rfl rfl rfl (by kernel_rfl) Tryz.func9 (by kernel_rfl)
  (of_decide_eq_true (by kernel_rfl)) (by unfold Func.isWrapper; first | (rw [if_pos (by decide +kernel)]; kernel_rfl) | (rw [if_neg (by decide +kernel)]; exact ⟨rfl,rfl⟩))
  (fun os started H enc _ F=>by rw [OpenClaim.pre_eq_preRow]; exact lifted os started H enc F)
theorem plain (f : FuncId) (fn : Func) (hf : Tryz.pinned.checked.prog.funcNamed "bolter/bolterlaw02.DecOwn" = some f) (hfn : Tryz.pinned.checked.prog.funcs[f]? = some fn) :
  false = Tryz.pinned.checked.prog.looks [] /\ ∀ (j : Nat) t,fn.params[j]? = some t->Tryz.pinned.checked.prog.wantsStandIn t = false:=by
 obtain rfl : f = 9 := Option.some.inj ((show Tryz.prog.funcNamed "bolter/bolterlaw02.DecOwn" = some 9 by kernel_rfl).symm.trans hf) |>.symm
 obtain rfl : fn = Tryz.f9:=(Option.some.inj (Tryz.func9.symm.trans hfn)).symm
 refine ⟨by kernel_rfl,fun j t ht=>?_⟩
 rw [Tryz.params9] at ht
 have hm : t ∈ (#[24,24] : Array TypeId):=Array.mem_of_getElem? ht
 have hall : ∀ t ∈ [24,24],Tryz.prog.wantsStandIn t = false:=by
  intro t h
  simp only [List.mem_cons,List.mem_nil_iff,or_false] at h
  rcases h with rfl | rfl <;> kernel_rfl
 exact hall t (by simpa using hm)
theorem card : Rows.DecOwnCardSaid :=
 Claim7.holds_tied_plain_at .later [] _ _ _ _ said (fun _ h=>by cases h) (by kernel_rfl) (fun _ h=>by cases h) decOwn_row_tie rfl ⟨rfl,rfl⟩ (by kernel_rfl) rfl plain (by kernel_rfl)
#print axioms card
end YtjbjkmccfocikaaGreatDoor.R.decOwn
end
end Go.Proofs
